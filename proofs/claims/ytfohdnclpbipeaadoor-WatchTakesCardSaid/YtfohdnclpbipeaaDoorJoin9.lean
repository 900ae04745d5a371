import Derived.Test.YtfohdnclpbipeaaDoorJoin6
import Derived.Test.YtfohdnclpbipeaaDoorJoin7
import Derived.Test.YtfohdnclpbipeaaDoorJoin8
namespace Go.Proofs.YtfohdnclpbipeaaDoor
section
open Go Go.SL
section
/-- A list in order is the one list in order that has its elements. -/
theorem sorted_one : ∀ {ys xs : List Int}, xs.Perm ys → (xs.Pairwise fun x y => Sort.ltInt y x = false) → ys.Pairwise (· ≤ ·) → xs = ys
  | [], xs, h, _, _ => h.eq_nil
  | y :: ys, xs, h, hx, hy => by
    cases xs with
    | nil => exact absurd h.symm.eq_nil (by simp)
    | cons x xs =>
      have hx1 := List.pairwise_cons.1 hx
      have hy1 := List.pairwise_cons.1 hy
      have e : x = y := by
        have a1 : x ∈ y :: ys := h.subset (by simp)
        have a2 : y ∈ x :: xs := h.symm.subset (by simp)
        rcases List.mem_cons.1 a1 with q | q
        · exact q
        · rcases List.mem_cons.1 a2 with q2 | q2
          · exact q2.symm
          · have l1 := hy1.1 x q
            have l2 := hx1.1 y q2
            simp only [Sort.ltInt, decide_eq_false_iff_not] at l2
            omega
      subst e
      rw [sorted_one (List.Perm.cons_inv h) hx1.2 hy1.2]
theorem dig_small {u : Nat} (h : u < 10) : dig u = [(48 + u : Int)] := by
  unfold dig
  rw [Lib.decDigits_one h]
  simp
  omega
theorem dig_big {u : Nat} (h : ¬ u < 10) : dig u = dig (u / 10) ++ [(48 + u % 10 : Int)] := by
  unfold dig
  rw [Lib.decDigits, dif_neg h, List.map_append]
  congr 1
  simp
  omega
theorem woke_shape : strOf (shapeB [((3, 0, 100, 1, 205) : WireT)]) = ⟨#[51, 32, 48, 32, 49, 48, 48, 32, 49, 32, 50, 48, 53, 10]⟩ := by
  have e : shapeB [((3, 0, 100, 1, 205) : WireT)] = [51, 32, 48, 32, 49, 48, 48, 32, 49, 32, 50, 48, 53, 10] := by
    have n0 : numT 0 = [48] := by rw [numT, if_neg (by decide)]; exact dig_small (by decide)
    have n1 : numT 1 = [49] := by rw [numT, if_neg (by decide)]; exact dig_small (by decide)
    have n3 : numT 3 = [51] := by rw [numT, if_neg (by decide)]; exact dig_small (by decide)
    have n100 : numT 100 = [49, 48, 48] := by
      rw [numT, if_neg (by decide), show (100 : Int).toNat = 100 from rfl, dig_big (by decide), show 100 / 10 = 10 from rfl, dig_big (by decide), show 10 / 10 = 1 from rfl, dig_small (by decide)]; rfl
    have n205 : numT 205 = [50, 48, 53] := by
      rw [numT, if_neg (by decide), show (205 : Int).toNat = 205 from rfl, dig_big (by decide), show 205 / 10 = 20 from rfl, dig_big (by decide), show 20 / 10 = 2 from rfl, dig_small (by decide)]; rfl
    simp only [shapeB, List.flatMap_cons, List.flatMap_nil, lineB, n0, n1, n3, n100, n205]
    rfl
  rw [e]
  rfl
theorem woke_runs {ys : List Int} (h : ys.Perm [1, 2, 3]) (hs : ys.Pairwise fun x y => Sort.ltInt y x = false) : (runsF 3 (Lib.compact ys)).1 = 1 := by
  rw [sorted_one h hs (by decide)]
  decide
theorem wire0_ok : WiOk (3, 0, 100, 1, 205) := by unfold WiOk R64; decide
theorem fill_123 : Instr.fill (fun i => some (i * 1, 1)) ((Array.range (3 * 1)).map ((Value.int .u64 0).cells[· % (Value.int .u64 0).cells.size]!)) [(0, .int .u64 1), (1, .int .u64 2), (2, .int .u64 3)] = some (ints .u64 [1, 2, 3]).toArray := by
  have h := fill_eq (fun i => some (i * 1, 1)) [(0, 1), (1, 1), (2, 1)] [(0, .int .u64 1), (1, .int .u64 2), (2, .int .u64 3)] [Value.int .u64 0, Value.int .u64 0, Value.int .u64 0] (by intro q hq; simp at hq; rcases hq with rfl | rfl | rfl <;> rfl) (by simp [fillOk, Value.cells])
  have e : ((Array.range (3 * 1)).map ((Value.int .u64 0).cells[· % (Value.int .u64 0).cells.size]!)) = [Value.int .u64 0, Value.int .u64 0, Value.int .u64 0].toArray := by kernel_rfl
  rw [e, h]
  rfl
def sea0 : SealT := ⟨0, true, List.replicate 32 0, 0, List.replicate 130 0⟩
theorem sea0_ok : SeOk sea0 := ⟨by simp [sea0], by simp [sea0]⟩
theorem woke_acc : accI (readF [] [sea0]).2.1 = [0] := rfl
end
section
attribute [local irreducible] J JL JE JM LS Y Fc RV Code.wp wpList Code.wpIn wpListIn
attribute [local irreducible] Yc Sort.ltInt
variable (E : World)
set_option maxRecDepth 100000 in
theorem wakes_spec (l : List HProp) (ht : T10 E l) : Fc prog E 11 [].toArray l (fun v l' => v = .bool true ∧ l' = l) := by
  refine Fc.eqs ?_
  refine Fc.of_body (c := ?codeC) Tryd.func11 ?hb Tryd.ntmps11 ?hl ?_
  case hb => exact rfl
  case hl => exact rfl
  refine J.seq ?_
  refine J.region ?_
  refine JL.step (y_assign rfl) rfl rfl rfl ?_
  refine JL.nil ?_
  refine JE.then_normal ?_
  refine J.seq ?_
  refine J.region ?_
  refine JL.step (y_build (cs := [_, _, _, _, _]) hT rfl rfl rfl rfl rfl rfl ⟨⟨(by (first | rfl | assumption | (simp; done) | omega)), Nat.le_of_ble_eq_true rfl⟩, ⟨⟨(by (first | rfl | assumption | (simp; done) | omega)), Nat.le_of_ble_eq_true rfl⟩, ⟨⟨(by (first | rfl | assumption | (simp; done) | omega)), Nat.le_of_ble_eq_true rfl⟩, ⟨⟨(by (first | rfl | assumption | (simp; done) | omega)), Nat.le_of_ble_eq_true rfl⟩, ⟨⟨(by (first | rfl | assumption | (simp; done) | omega)), Nat.le_of_ble_eq_true rfl⟩, trivial⟩⟩⟩⟩⟩ rfl) rfl rfl rfl ?_
  refine JL.loud rfl (l_buildSliceP hT rfl rfl rfl rfl rfl rfl rfl (by (first | exact fill_one rfl (by first | assumption | rfl | (simp; done)) | rfl | simp)) rfl (fun b1 => ?_))
  refine JL.step (y_assign rfl) rfl rfl rfl ?_
  refine JL.nil ?_
  refine JE.then_normal ?_
  refine J.seq ?_
  refine J.region ?_
  refine JL.step (y_move rfl) rfl rfl rfl ?_
  refine JL.loud rfl (l_callF e13 rfl rfl (shape_spec E (some ⟨b1, 0, none⟩) 1 1 [(3, 0, 100, 1, 205)] _ rfl (by omega) (by intro w hw; simp at hw; subst hw; exact wire0_ok) (InL.ofRow Pick.head (by unfold maxLen; omega)) (by (repeat (first | assumption | apply T10.cons | apply T10.app)))) ?_)
  rintro _ _ ⟨rfl, rfl⟩
  refine JL.step (v := .bool true) (Y.val (y_str_eq rfl rfl) (by rw [woke_shape]; rfl)) rfl rfl rfl ?_
  refine JL.step (y_move rfl) rfl rfl rfl ?_
  all_goals (first | (refine JL.gsplit_dec rfl rfl rfl (fun h => ?_) (fun h => ?_) <;> try (first | (exfalso; omega) | exact absurd rfl h)) | (refine JL.gsplit rfl rfl rfl (fun h => ?_) (fun h => ?_) <;> try (first | cases h | (exfalso; simp at h; done))) | skip)
  all_goals (first | refine JL.gskip rfl rfl rfl rfl rfl rfl ?_ | refine JL.gskipU rfl rfl rfl rfl rfl ?_ | refine JL.gstep rfl rfl rfl (y_move rfl) rfl rfl ?_)
  all_goals (first | refine JL.gskip rfl rfl rfl rfl rfl rfl ?_ | refine JL.gskipU rfl rfl rfl rfl rfl ?_ | (refine JL.gloud rfl rfl rfl (l_callF e16 rfl rfl (flows_spec E (some ⟨b1, 0, none⟩) 1 1 [(3, 0, 100, 1, 205)] _ rfl (by omega) (by intro w hw; simp at hw; subst hw; exact wire0_ok) (InL.ofRow Pick.head (by unfold maxLen; omega))) ?_); rintro _ _ ⟨vs, a, c', hvs, _, rfl, rfl⟩))
  all_goals (first | refine JL.gskip rfl rfl rfl rfl rfl rfl ?_ | refine JL.gskipU rfl rfl rfl rfl rfl ?_ | refine JL.gstep rfl rfl rfl (y_len_slice hT rfl rfl rfl) rfl rfl ?_)
  all_goals (first | refine JL.gskip rfl rfl rfl rfl rfl rfl ?_ | refine JL.gskipU rfl rfl rfl rfl rfl ?_ | refine JL.gstep rfl rfl rfl (v := .bool true) (Y.val (y_eql rfl rfl) (by rw [hvs.length_eq]; rfl)) rfl rfl ?_)
  all_goals (refine JL.step (y_pick rfl rfl rfl) rfl rfl rfl ?_)
  all_goals (refine JL.step (y_move rfl) rfl rfl rfl ?_)
  all_goals (first | refine JL.gskip rfl rfl rfl rfl rfl rfl ?_ | refine JL.gskipU rfl rfl rfl rfl rfl ?_ | refine JL.gloud rfl rfl rfl (l_buildSliceP (cs := ints .u64 [1, 2, 3]) hT rfl rfl rfl rfl rfl rfl rfl fill_123 rfl (fun b3 => ?_)))
  all_goals (first | refine JL.gskip rfl rfl rfl rfl rfl rfl ?_ | refine JL.gskipU rfl rfl rfl rfl rfl ?_ | (refine JL.gloud rfl rfl rfl (l_callF e18 rfl rfl (runs_spec E (some ⟨b3, 0, none⟩) 3 3 [1, 2, 3] 3 _ rfl (by omega) (InL.ofRow Pick.head (by unfold maxLen; omega))) ?_); rintro _ _ ⟨z, rfl, _, hz, rfl⟩))
  all_goals (first | refine JL.gskip rfl rfl rfl rfl rfl rfl ?_ | refine JL.gskipU rfl rfl rfl rfl rfl ?_ | refine JL.gstep rfl rfl rfl (v := .bool true) (Y.val (y_eql rfl rfl) (by obtain ⟨ys, h1, h2, rfl⟩ := hz (by decide); rw [woke_runs h1 h2]; rfl)) rfl rfl ?_)
  all_goals (refine JL.step (y_pick rfl rfl rfl) rfl rfl rfl ?_)
  all_goals (refine JL.step (y_move rfl) rfl rfl rfl ?_)
  all_goals (first | refine JL.gskip rfl rfl rfl rfl rfl rfl ?_ | refine JL.gskipU rfl rfl rfl rfl rfl ?_ | refine JL.gstep rfl rfl rfl (y_build (cs := (seE sea0).tail) hT rfl rfl rfl rfl rfl rfl ⟨⟨rfl, Nat.le_of_ble_eq_true rfl⟩, trivial⟩ rfl) rfl rfl ?_)
  all_goals (first | refine JL.gskip rfl rfl rfl rfl rfl rfl ?_ | refine JL.gskipU rfl rfl rfl rfl rfl ?_ | refine JL.gstep rfl rfl rfl (y_build (cs := seE sea0) hT rfl rfl rfl rfl rfl rfl ⟨⟨rfl, Nat.le_of_ble_eq_true rfl⟩, trivial⟩ rfl) rfl rfl ?_)
  all_goals (first | refine JL.gskip rfl rfl rfl rfl rfl rfl ?_ | refine JL.gskipU rfl rfl rfl rfl rfl ?_ | refine JL.gloud rfl rfl rfl (l_buildSliceP (cs := seE sea0) hT rfl rfl rfl rfl rfl rfl rfl (fill_one rfl (seE_length sea0_ok)) rfl (fun b5 => ?_)))
  all_goals (first | refine JL.gskip rfl rfl rfl rfl rfl rfl ?_ | refine JL.gskipU rfl rfl rfl rfl rfl ?_ | (refine JL.gloud rfl rfl rfl (l_callF e23 rfl rfl (accidents_spec E none 0 0 [] (some ⟨b5, 0, none⟩) 1 1 [sea0] _ rfl (by simp) ⟨Nat.le_refl _, by unfold maxLen; omega, .inr ⟨rfl, rfl⟩⟩ (by omega) rfl (by omega) (by intro x hx; simp at hx; subst hx; exact sea0_ok) (InL.ofRow Pick.head (by unfold maxLen; omega))) ?_); rintro _ _ ⟨a4, c4, rfl, rfl⟩))
  all_goals (first | refine JL.gskip rfl rfl rfl rfl rfl rfl ?_ | refine JL.gskipU rfl rfl rfl rfl rfl ?_ | refine JL.gstep rfl rfl rfl (y_len_slice hT rfl rfl rfl) rfl rfl ?_)
  all_goals (first | refine JL.gskip rfl rfl rfl rfl rfl rfl ?_ | refine JL.gskipU rfl rfl rfl rfl rfl ?_ | refine JL.gstep rfl rfl rfl (y_eql rfl rfl) rfl rfl ?_)
  all_goals (refine JL.step (y_pick rfl rfl rfl) rfl rfl rfl ?_)
  all_goals (refine JL.step (y_assign rfl) rfl rfl rfl ?_)
  all_goals refine JL.nil ?_
  all_goals refine JE.then_normal ?_
  all_goals
    refine J.ret ?_
    refine JE.ret1 (.inl rfl) rfl rfl (by (first | exact RV.tmp rfl | exact RV.cell1 hT rfl rfl rfl (by (exact Rd1.row (by (repeat (first | exact Pick.head | apply Pick.tail | apply Pick.app))) (by rfl))) | exact RV.cellN hT rfl rfl rfl (by (first | exact RdN.rowAll (by (repeat (first | exact Pick.head | apply Pick.tail | apply Pick.app))) | exact RdN.own (by (repeat (first | exact Pick.head | apply Pick.tail | apply Pick.app))))) (by (first | rfl | assumption | (simp; done) | omega)))) ?_
    exact ⟨rfl, fun w h => h.sup (by (repeat (first | exact Sup.refl | apply Sup.cons (by (repeat (first | exact Pick.head | apply Pick.tail | apply Pick.app))) | apply Sup.app | apply Sup.skip | apply Sup.skips)))⟩
end
end
section
open Go Go.SL
section
theorem compact_snoc (ys : List Int) (z : Int) : Lib.compact (ys ++ [z]) = Lib.compact ys ++ (if ys.getLast? = some z then [] else [z]) := by
  have hget : ∀ j, j < ys.length → (ys ++ [z]).toArray[j]! = ys.toArray[j]! := fun j hj => by
    rw [getElem!_pos _ j (by simp; omega), getElem!_pos _ j (by simpa using hj)]
    simp [List.getElem_append_left hj]
  unfold Lib.compact
  rw [List.length_append, List.length_singleton, Lib.compactUpTo_succ]
  congr 1
  · unfold Lib.compactUpTo
    have hf : (List.range ys.length).filter (Lib.keeps (ys ++ [z]).toArray) = (List.range ys.length).filter (Lib.keeps ys.toArray) := List.filter_congr fun j hj => by
      have hj := List.mem_range.1 hj
      unfold Lib.keeps
      rw [hget j hj]
      by_cases h0 : j = 0
      · simp [h0]
      · rw [hget (j - 1) (by omega)]
    rw [hf]
    exact List.map_congr_left fun j hj => hget j (List.mem_range.1 (List.mem_filter.1 hj).1)
  · have hz : (ys ++ [z]).toArray[ys.length]! = z := by rw [getElem!_pos _ _ (by simp)]; simp
    rw [hz]
    unfold Lib.keeps
    rw [hz]
    by_cases h0 : ys = []
    · subst h0; simp
    · have hl : 0 < ys.length := List.length_pos_iff.2 h0
      have ea : ys.toArray[ys.length - 1]! = ys[ys.length - 1] := by rw [getElem!_pos _ _ (by simp; omega)]; simp
      rw [hget (ys.length - 1) (by omega), ea, List.getLast?_eq_getElem?, List.getElem?_eq_getElem (by omega)]
      by_cases e : ys[ys.length - 1] = z
      · simp [h0, e]
      · simp [h0, e, Ne.symm e]
theorem compact_facts : ∀ (ys : List Int), (ys.Pairwise (· ≤ ·)) → (Lib.compact ys).Pairwise (· < ·) ∧ (∀ x, x ∈ Lib.compact ys ↔ x ∈ ys) ∧ (Lib.compact ys).getLast? = ys.getLast? := by
  suffices hq : ∀ rs : List Int, (rs.reverse.Pairwise (· ≤ ·)) → (Lib.compact rs.reverse).Pairwise (· < ·) ∧ (∀ x, x ∈ Lib.compact rs.reverse ↔ x ∈ rs.reverse) ∧ (Lib.compact rs.reverse).getLast? = rs.reverse.getLast? by
    intro ys h
    have := hq ys.reverse
    rw [List.reverse_reverse] at this
    exact this h
  intro rs
  induction rs with
  | nil => intro _; exact ⟨List.Pairwise.nil, fun x => Iff.rfl, rfl⟩
  | cons z rs ih =>
    rw [List.reverse_cons]
    generalize rs.reverse = ys at ih ⊢
    intro h
    rw [List.pairwise_append] at h
    obtain ⟨h1, h2, h3⟩ := ih h.1
    rw [compact_snoc]
    by_cases e : ys.getLast? = some z
    · rw [if_pos e, List.append_nil]
      refine ⟨h1, fun x => ?_, by rw [h3, e]; simp⟩
      rw [h2, List.mem_append, List.mem_singleton]
      exact ⟨fun q => .inl q, fun q => q.elim id fun q => q ▸ List.mem_of_getLast? e⟩
    · rw [if_neg e]
      refine ⟨?_, fun x => by rw [List.mem_append, List.mem_append, h2], by simp⟩
      rw [List.pairwise_append]
      refine ⟨h1, List.pairwise_singleton _ _, fun a ha b hb => ?_⟩
      obtain rfl := List.mem_singleton.1 hb
      have hle : a ≤ b := h.2.2 a ((h2 a).1 ha) b (by simp)
      rcases Int.lt_or_eq_of_le hle with q | q
      · exact q
      · subst q
        exfalso
        obtain ⟨c, hc⟩ : ∃ c, ys.getLast? = some c := by
          cases hq : ys.getLast? with
          | some c => exact ⟨c, rfl⟩
          | none => rw [List.getLast?_eq_none_iff] at hq; subst hq; simp [Lib.compact, Lib.compactUpTo] at ha
        have hcl : (Lib.compact ys).getLast? = some c := by rw [h3, hc]
        have hca : c ≤ a := h.2.2 c (List.mem_of_getLast? hc) a (by simp)
        have hac : a = c ∨ a < c := last_most h1 hcl a ha
        rcases hac with q | q
        · exact e (by rw [hc, q])
        · omega
where
  last_most {l : List Int} {c : Int} (h : l.Pairwise (· < ·)) (hc : l.getLast? = some c) : ∀ a ∈ l, a = c ∨ a < c := fun a ha => by
    obtain ⟨m, rfl⟩ := List.getLast?_eq_some_iff.1 hc
    rcases List.mem_append.1 ha with q | q
    · exact .inr ((List.pairwise_append.1 h).2.2 a q c (by simp))
    · exact .inl (List.mem_singleton.1 q)
theorem plcU_facts (x : Int) : ∀ {l : List Int}, l.Pairwise (· < ·) → (plcU x l).Pairwise (· < ·) ∧ ∀ y, y ∈ plcU x l ↔ y = x ∨ y ∈ l
  | [], _ => ⟨List.pairwise_singleton _ _, fun y => by simp [plcU]⟩
  | z :: r, h => by
    have h1 := List.pairwise_cons.1 h
    obtain ⟨i1, i2⟩ := plcU_facts x h1.2
    unfold plcU
    split
    · refine ⟨List.pairwise_cons.2 ⟨fun y hy => ?_, i1⟩, fun y => by rw [List.mem_cons, i2, List.mem_cons]; constructor <;> (intro q; rcases q with q | q | q <;> simp [q])⟩
      rcases (i2 y).1 hy with rfl | q
      · assumption
      · exact h1.1 y q
    · split
      · subst x
        exact ⟨h, fun y => by simp⟩
      · refine ⟨List.pairwise_cons.2 ⟨fun y hy => ?_, h⟩, fun y => by simp⟩
        rcases List.mem_cons.1 hy with rfl | q
        · omega
        · have := h1.1 y q; omega
theorem plcF_facts (xs : List Int) : (plcF xs).Pairwise (· < ·) ∧ ∀ y, y ∈ plcF xs ↔ y ∈ xs := by
  have h : ∀ (xs l : List Int), l.Pairwise (· < ·) → (xs.foldl (fun l x => plcU x l) l).Pairwise (· < ·) ∧ ∀ y, y ∈ xs.foldl (fun l x => plcU x l) l ↔ y ∈ l ∨ y ∈ xs := by
    intro xs
    induction xs with
    | nil => intro l hl; exact ⟨hl, fun y => by simp⟩
    | cons x r ih =>
      intro l hl
      obtain ⟨i1, i2⟩ := plcU_facts x hl
      obtain ⟨j1, j2⟩ := ih (plcU x l) i1
      refine ⟨j1, fun y => ?_⟩
      rw [List.foldl_cons, j2, i2, List.mem_cons]
      rw [or_assoc, or_left_comm]
  obtain ⟨h1, h2⟩ := h xs [] List.Pairwise.nil
  exact ⟨h1, fun y => by unfold plcF; rw [h2]; simp⟩
theorem strict_eq : ∀ {a b : List Int}, a.Pairwise (· < ·) → b.Pairwise (· < ·) → (∀ x, x ∈ a ↔ x ∈ b) → a = b
  | [], [], _, _, _ => rfl
  | [], y :: b, _, _, h => absurd ((h y).2 (by simp)) (by simp)
  | x :: a, [], _, _, h => absurd ((h x).1 (by simp)) (by simp)
  | x :: a, y :: b, ha, hb, h => by
    have ha1 := List.pairwise_cons.1 ha
    have hb1 := List.pairwise_cons.1 hb
    have e : x = y := by
      have h1 := (h x).1 (by simp)
      have h2 := (h y).2 (by simp)
      rcases List.mem_cons.1 h1 with q | q
      · exact q
      · rcases List.mem_cons.1 h2 with q2 | q2
        · exact q2.symm
        · have := hb1.1 x q; have := ha1.1 y q2; omega
    subst e
    rw [strict_eq ha1.2 hb1.2 fun z => ?_]
    have hz := h z
    rw [List.mem_cons, List.mem_cons] at hz
    constructor
    · intro q
      rcases hz.1 (.inr q) with q2 | q2
      · subst q2; exact absurd (ha1.1 z q) (by omega)
      · exact q2
    · intro q
      rcases hz.2 (.inr q) with q2 | q2
      · subst q2; exact absurd (hb1.1 z q) (by omega)
      · exact q2
/-- What Runs counts is what the document counts. -/
theorem runs_same {n : Int} (hn : ¬ n < 1) {xs ys : List Int} (hp : ys.Perm xs) (hs : ys.Pairwise fun x y => Sort.ltInt y x = false) : (runsF n (Lib.compact ys)).1 = refRuns n (plcF xs).length (plcF xs) := by
  have hs2 : ys.Pairwise (· ≤ ·) := hs.imp fun {a b} q => by simp only [Sort.ltInt, decide_eq_false_iff_not] at q; omega
  obtain ⟨c1, c2, _⟩ := compact_facts ys hs2
  obtain ⟨p1, p2⟩ := plcF_facts xs
  rw [strict_eq c1 p1 fun x => by rw [c2, p2, hp.mem_iff]]
  generalize plcF xs = zs
  cases zs with
  | nil => rfl
  | cons x r =>
    unfold runsF
    rw [List.foldl_cons]
    have e1 : runStep n (0, 0, none) x = if 0 + 1 = n then (0 + 1, 0, some x) else (0, 0 + 1, some x) := rfl
    rw [e1]
    rw [rr_step rfl (Nat.le_refl _)]
    by_cases h1 : (0 : Int) + 1 = n
    · rw [if_pos h1, refRuns_eq (by omega) r (x :: r).length (0 + 1) 0 x (by simp) (by omega) (by omega)]
      obtain rfl : n = 1 := by omega
      simp only [Int.ediv_one]
      push_cast
      omega
    · rw [if_neg h1, refRuns_eq (by omega) r (x :: r).length 0 (0 + 1) x (by simp) (by omega) (by omega)]
      push_cast
      rw [Int.add_comm 1 (goOn x r : Int)]
      generalize ((goOn x r : Int) + 1) / n = q
      omega
end
end
section
open Go Go.SL
section
theorem refRuns_nonneg {n : Int} (hn : 1 ≤ n) : ∀ (f : Nat) (l : List Int), 0 ≤ refRuns n f l
  | 0, l => by simp [refRuns]
  | _ + 1, [] => by simp [refRuns]
  | f + 1, x :: r => by
    have h1 := refRuns_nonneg hn f (r.drop (goOn x r))
    have h2 : 0 ≤ ((goOn x r + 1 : Nat) : Int) / n := Int.ediv_nonneg (by omega) (by omega)
    rw [refRuns]; omega
theorem refRuns_mul {n : Int} (hn : 1 ≤ n) : ∀ (f : Nat) (l : List Int), n * refRuns n f l ≤ l.length
  | 0, l => by simp [refRuns]
  | _ + 1, [] => by simp [refRuns]
  | f + 1, x :: r => by
    have h1 := refRuns_mul hn f (r.drop (goOn x r))
    rw [List.length_drop] at h1
    have h2 : n * (((goOn x r + 1 : Nat) : Int) / n) ≤ ((goOn x r + 1 : Nat) : Int) := Int.mul_ediv_self_le (by omega)
    have h3 := goOn_le x r
    rw [refRuns, Int.mul_add, List.length_cons]
    omega
theorem refRuns_one : ∀ (f : Nat) (l : List Int), l.length ≤ f → refRuns 1 f l = l.length
  | 0, [], _ => rfl
  | 0, x :: r, h => by simp at h
  | _ + 1, [], _ => rfl
  | f + 1, x :: r, h => by
    have h3 := goOn_le x r
    simp only [List.length_cons] at h
    rw [refRuns, refRuns_one f (r.drop (goOn x r)) (by rw [List.length_drop]; omega), List.length_drop, Int.ediv_one, List.length_cons]
    omega
theorem refRuns_less {n : Int} (hn : 1 ≤ n) : ∀ (f : Nat) (l : List Int), refRuns (n + 1) f l ≤ refRuns n f l
  | 0, l => by simp [refRuns]
  | _ + 1, [] => by simp [refRuns]
  | f + 1, x :: r => by
    have h1 := refRuns_less hn f (r.drop (goOn x r))
    have h2 : ((goOn x r + 1 : Nat) : Int) / (n + 1) ≤ ((goOn x r + 1 : Nat) : Int) / n := by
      rw [Int.le_ediv_iff_mul_le (by omega)]
      have a : (n + 1) * (((goOn x r + 1 : Nat) : Int) / (n + 1)) ≤ ((goOn x r + 1 : Nat) : Int) := Int.mul_ediv_self_le (by omega)
      have b : 0 ≤ ((goOn x r + 1 : Nat) : Int) / (n + 1) := Int.ediv_nonneg (by omega) (by omega)
      generalize ((goOn x r + 1 : Nat) : Int) / (n + 1) = q at a b ⊢
      rw [Int.add_mul, Int.one_mul] at a
      rw [Int.mul_comm]
      omega
    rw [refRuns, refRuns]; omega
/-- Numbers that were met, in the order in which they came. -/
def metU (xs : List Int) : List Int := xs.foldl (fun L x => if x ∈ L then L else L ++ [x]) []
theorem metU_facts (xs : List Int) : (metU xs).Nodup ∧ ∀ y, y ∈ metU xs ↔ y ∈ xs := by
  have h : ∀ (xs L : List Int), L.Nodup → (xs.foldl (fun L x => if x ∈ L then L else L ++ [x]) L).Nodup ∧ ∀ y, y ∈ xs.foldl (fun L x => if x ∈ L then L else L ++ [x]) L ↔ y ∈ L ∨ y ∈ xs := by
    intro xs
    induction xs with
    | nil => intro L hL; exact ⟨hL, fun y => by simp⟩
    | cons x r ih =>
      intro L hL
      rw [List.foldl_cons]
      by_cases e : x ∈ L
      · rw [if_pos e]
        obtain ⟨i1, i2⟩ := ih L hL
        refine ⟨i1, fun y => ?_⟩
        rw [i2, List.mem_cons]
        constructor
        · rintro (q | q)
          · exact .inl q
          · exact .inr (.inr q)
        · rintro (q | rfl | q)
          · exact .inl q
          · exact .inl e
          · exact .inr q
      · rw [if_neg e]
        obtain ⟨i1, i2⟩ := ih (L ++ [x]) (by rw [List.nodup_append]; exact ⟨hL, by simp, fun a ha b hb => by obtain rfl := List.mem_singleton.1 hb; exact fun q => e (q ▸ ha)⟩)
        refine ⟨i1, fun y => ?_⟩
        rw [i2, List.mem_append, List.mem_singleton, List.mem_cons, or_assoc]
  obtain ⟨h1, h2⟩ := h xs [] List.nodup_nil
  exact ⟨h1, fun y => by unfold metU; rw [h2]; simp⟩
theorem metU_length (xs : List Int) : (metU xs).length = (plcF xs).length := by
  obtain ⟨a1, a2⟩ := metU_facts xs
  obtain ⟨b1, b2⟩ := plcF_facts xs
  have hp : (metU xs).Perm (plcF xs) := (List.perm_ext_iff_of_nodup a1 (b1.imp fun q => by omega)).2 fun y => by rw [a2, b2]
  exact hp.length_eq
end
end
end Go.Proofs.YtfohdnclpbipeaaDoor
