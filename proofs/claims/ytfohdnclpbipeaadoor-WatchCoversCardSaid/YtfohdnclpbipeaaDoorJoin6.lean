import Derived.Test.YtfohdnclpbipeaaDoorJoin1
import Derived.Test.YtfohdnclpbipeaaDoorJoin4
import Derived.Test.YtfohdnclpbipeaaDoorJoin5
namespace Go.Proofs.YtfohdnclpbipeaaDoor
section
open Go Go.SL
section
end
section
end
section
attribute [local irreducible] J JL JE JM LS Y Fc RV Code.wp wpList Code.wpIn wpListIn
attribute [local irreducible] Yc Sort.ltInt
variable (E : World)
end
end
section
open Go Go.SL
section
/-- A list in order is the one list in order that has its elements. -/
theorem sorted_one : ∀ {ys xs : List Int}, xs.Perm ys → (xs.Pairwise fun x y => Sort.ltInt y x = false) → ys.Pairwise (· ≤ ·) → xs = ys
  | [], xs, h, _, _ => h.eq_nil
  | y :: ys, xs, h, hx, hy => by
    cases xs with
    | nil => exact absurd h.symm.eq_nil (by simp)
    | cons x xs =>
      have hx1 := List.pairwise_cons.1 hx
      have hy1 := List.pairwise_cons.1 hy
      have e : x = y := by
        have a1 : x ∈ y :: ys := h.subset (by simp)
        have a2 : y ∈ x :: xs := h.symm.subset (by simp)
        rcases List.mem_cons.1 a1 with q | q
        · exact q
        · rcases List.mem_cons.1 a2 with q2 | q2
          · exact q2.symm
          · have l1 := hy1.1 x q
            have l2 := hx1.1 y q2
            simp only [Sort.ltInt, decide_eq_false_iff_not] at l2
            omega
      subst e
      rw [sorted_one (List.Perm.cons_inv h) hx1.2 hy1.2]
theorem dig_small {u : Nat} (h : u < 10) : dig u = [(48 + u : Int)] := by
  unfold dig
  rw [Lib.decDigits_one h]
  simp
  omega
theorem dig_big {u : Nat} (h : ¬ u < 10) : dig u = dig (u / 10) ++ [(48 + u % 10 : Int)] := by
  unfold dig
  rw [Lib.decDigits, dif_neg h, List.map_append]
  congr 1
  simp
  omega
theorem woke_shape : strOf (shapeB [((3, 0, 100, 1, 205) : WireT)]) = ⟨#[51, 32, 48, 32, 49, 48, 48, 32, 49, 32, 50, 48, 53, 10]⟩ := by
  have e : shapeB [((3, 0, 100, 1, 205) : WireT)] = [51, 32, 48, 32, 49, 48, 48, 32, 49, 32, 50, 48, 53, 10] := by
    have n0 : numT 0 = [48] := by rw [numT, if_neg (by decide)]; exact dig_small (by decide)
    have n1 : numT 1 = [49] := by rw [numT, if_neg (by decide)]; exact dig_small (by decide)
    have n3 : numT 3 = [51] := by rw [numT, if_neg (by decide)]; exact dig_small (by decide)
    have n100 : numT 100 = [49, 48, 48] := by
      rw [numT, if_neg (by decide), show (100 : Int).toNat = 100 from rfl, dig_big (by decide), show 100 / 10 = 10 from rfl, dig_big (by decide), show 10 / 10 = 1 from rfl, dig_small (by decide)]; rfl
    have n205 : numT 205 = [50, 48, 53] := by
      rw [numT, if_neg (by decide), show (205 : Int).toNat = 205 from rfl, dig_big (by decide), show 205 / 10 = 20 from rfl, dig_big (by decide), show 20 / 10 = 2 from rfl, dig_small (by decide)]; rfl
    simp only [shapeB, List.flatMap_cons, List.flatMap_nil, lineB, n0, n1, n3, n100, n205]
    rfl
  rw [e]
  rfl
theorem woke_runs {ys : List Int} (h : ys.Perm [1, 2, 3]) (hs : ys.Pairwise fun x y => Sort.ltInt y x = false) : (runsF 3 (Lib.compact ys)).1 = 1 := by
  rw [sorted_one h hs (by decide)]
  decide
theorem wire0_ok : WiOk (3, 0, 100, 1, 205) := by unfold WiOk R64; decide
theorem fill_123 : Instr.fill (fun i => some (i * 1, 1)) ((Array.range (3 * 1)).map ((Value.int .u64 0).cells[· % (Value.int .u64 0).cells.size]!)) [(0, .int .u64 1), (1, .int .u64 2), (2, .int .u64 3)] = some (ints .u64 [1, 2, 3]).toArray := by
  have h := fill_eq (fun i => some (i * 1, 1)) [(0, 1), (1, 1), (2, 1)] [(0, .int .u64 1), (1, .int .u64 2), (2, .int .u64 3)] [Value.int .u64 0, Value.int .u64 0, Value.int .u64 0] (by intro q hq; simp at hq; rcases hq with rfl | rfl | rfl <;> rfl) (by simp [fillOk, Value.cells])
  have e : ((Array.range (3 * 1)).map ((Value.int .u64 0).cells[· % (Value.int .u64 0).cells.size]!)) = [Value.int .u64 0, Value.int .u64 0, Value.int .u64 0].toArray := by kernel_rfl
  rw [e, h]
  rfl
def sea0 : SealT := ⟨0, true, List.replicate 32 0, 0, List.replicate 130 0⟩
theorem sea0_ok : SeOk sea0 := ⟨by simp [sea0], by simp [sea0]⟩
end
section
attribute [local irreducible] J JL JE JM LS Y Fc RV Code.wp wpList Code.wpIn wpListIn
attribute [local irreducible] Yc Sort.ltInt
variable (E : World)
set_option maxRecDepth 100000 in
theorem wakes_spec (l : List HProp) (ht : T10 E l) : Fc prog E 11 [].toArray l (fun v l' => v = .bool true ∧ l' = l) := by
  refine Fc.eqs ?_
  refine Fc.of_body (c := ?codeC) Tryd.func11 ?hb Tryd.ntmps11 ?hl ?_
  case hb => exact rfl
  case hl => exact rfl
  refine J.seq ?_
  refine J.region ?_
  refine JL.step (y_assign rfl) rfl rfl rfl ?_
  refine JL.nil ?_
  refine JE.then_normal ?_
  refine J.seq ?_
  refine J.region ?_
  refine JL.step (y_build (cs := [_, _, _, _, _]) hT rfl rfl rfl rfl rfl rfl ⟨⟨(by (first | rfl | assumption | (simp; done) | omega)), Nat.le_of_ble_eq_true rfl⟩, ⟨⟨(by (first | rfl | assumption | (simp; done) | omega)), Nat.le_of_ble_eq_true rfl⟩, ⟨⟨(by (first | rfl | assumption | (simp; done) | omega)), Nat.le_of_ble_eq_true rfl⟩, ⟨⟨(by (first | rfl | assumption | (simp; done) | omega)), Nat.le_of_ble_eq_true rfl⟩, ⟨⟨(by (first | rfl | assumption | (simp; done) | omega)), Nat.le_of_ble_eq_true rfl⟩, trivial⟩⟩⟩⟩⟩ rfl) rfl rfl rfl ?_
  refine JL.loud rfl (l_buildSliceP hT rfl rfl rfl rfl rfl rfl rfl (by (first | exact fill_one rfl (by first | assumption | rfl | (simp; done)) | rfl | simp)) rfl (fun b1 => ?_))
  refine JL.step (y_assign rfl) rfl rfl rfl ?_
  refine JL.nil ?_
  refine JE.then_normal ?_
  refine J.seq ?_
  refine J.region ?_
  refine JL.step (y_move rfl) rfl rfl rfl ?_
  refine JL.loud rfl (l_callF e13 rfl rfl (shape_spec E (some ⟨b1, 0, none⟩) 1 1 [(3, 0, 100, 1, 205)] _ rfl (by omega) (by intro w hw; simp at hw; subst hw; exact wire0_ok) (InL.ofRow Pick.head (by unfold maxLen; omega)) (by (repeat (first | assumption | apply T10.cons | apply T10.app)))) ?_)
  rintro _ _ ⟨rfl, rfl⟩
  refine JL.step (v := .bool true) (Y.val (y_str_eq rfl rfl) (by rw [woke_shape]; rfl)) rfl rfl rfl ?_
  refine JL.step (y_move rfl) rfl rfl rfl ?_
  all_goals (first | (refine JL.gsplit_dec rfl rfl rfl (fun h => ?_) (fun h => ?_) <;> try (first | (exfalso; omega) | exact absurd rfl h)) | (refine JL.gsplit rfl rfl rfl (fun h => ?_) (fun h => ?_) <;> try (first | cases h | (exfalso; simp at h; done))) | skip)
  all_goals (first | refine JL.gskip rfl rfl rfl rfl rfl rfl ?_ | refine JL.gskipU rfl rfl rfl rfl rfl ?_ | refine JL.gstep rfl rfl rfl (y_move rfl) rfl rfl ?_)
  all_goals (first | refine JL.gskip rfl rfl rfl rfl rfl rfl ?_ | refine JL.gskipU rfl rfl rfl rfl rfl ?_ | (refine JL.gloud rfl rfl rfl (l_callF e16 rfl rfl (flows_spec E (some ⟨b1, 0, none⟩) 1 1 [(3, 0, 100, 1, 205)] _ rfl (by omega) (by intro w hw; simp at hw; subst hw; exact wire0_ok) (InL.ofRow Pick.head (by unfold maxLen; omega))) ?_); rintro _ _ ⟨vs, a, c', hvs, _, rfl, rfl⟩))
  all_goals (first | refine JL.gskip rfl rfl rfl rfl rfl rfl ?_ | refine JL.gskipU rfl rfl rfl rfl rfl ?_ | refine JL.gstep rfl rfl rfl (y_len_slice hT rfl rfl rfl) rfl rfl ?_)
  all_goals (first | refine JL.gskip rfl rfl rfl rfl rfl rfl ?_ | refine JL.gskipU rfl rfl rfl rfl rfl ?_ | refine JL.gstep rfl rfl rfl (v := .bool true) (Y.val (y_eql rfl rfl) (by rw [hvs.length_eq]; rfl)) rfl rfl ?_)
  all_goals (refine JL.step (y_pick rfl rfl rfl) rfl rfl rfl ?_)
  all_goals (refine JL.step (y_move rfl) rfl rfl rfl ?_)
  all_goals (first | refine JL.gskip rfl rfl rfl rfl rfl rfl ?_ | refine JL.gskipU rfl rfl rfl rfl rfl ?_ | refine JL.gloud rfl rfl rfl (l_buildSliceP (cs := ints .u64 [1, 2, 3]) hT rfl rfl rfl rfl rfl rfl rfl fill_123 rfl (fun b3 => ?_)))
  all_goals (first | refine JL.gskip rfl rfl rfl rfl rfl rfl ?_ | refine JL.gskipU rfl rfl rfl rfl rfl ?_ | (refine JL.gloud rfl rfl rfl (l_callF e18 rfl rfl (runs_spec E (some ⟨b3, 0, none⟩) 3 3 [1, 2, 3] 3 _ rfl (by omega) (InL.ofRow Pick.head (by unfold maxLen; omega))) ?_); rintro _ _ ⟨z, rfl, _, hz, rfl⟩))
  all_goals (first | refine JL.gskip rfl rfl rfl rfl rfl rfl ?_ | refine JL.gskipU rfl rfl rfl rfl rfl ?_ | refine JL.gstep rfl rfl rfl (v := .bool true) (Y.val (y_eql rfl rfl) (by obtain ⟨ys, h1, h2, rfl⟩ := hz (by decide); rw [woke_runs h1 h2]; rfl)) rfl rfl ?_)
  all_goals (refine JL.step (y_pick rfl rfl rfl) rfl rfl rfl ?_)
  all_goals (refine JL.step (y_move rfl) rfl rfl rfl ?_)
  all_goals (first | refine JL.gskip rfl rfl rfl rfl rfl rfl ?_ | refine JL.gskipU rfl rfl rfl rfl rfl ?_ | refine JL.gstep rfl rfl rfl (y_build (cs := (seE sea0).tail) hT rfl rfl rfl rfl rfl rfl ⟨⟨rfl, Nat.le_of_ble_eq_true rfl⟩, trivial⟩ rfl) rfl rfl ?_)
  all_goals (first | refine JL.gskip rfl rfl rfl rfl rfl rfl ?_ | refine JL.gskipU rfl rfl rfl rfl rfl ?_ | refine JL.gstep rfl rfl rfl (y_build (cs := seE sea0) hT rfl rfl rfl rfl rfl rfl ⟨⟨rfl, Nat.le_of_ble_eq_true rfl⟩, trivial⟩ rfl) rfl rfl ?_)
  all_goals (first | refine JL.gskip rfl rfl rfl rfl rfl rfl ?_ | refine JL.gskipU rfl rfl rfl rfl rfl ?_ | refine JL.gloud rfl rfl rfl (l_buildSliceP (cs := seE sea0) hT rfl rfl rfl rfl rfl rfl rfl (fill_one rfl (seE_length sea0_ok)) rfl (fun b5 => ?_)))
  all_goals (first | refine JL.gskip rfl rfl rfl rfl rfl rfl ?_ | refine JL.gskipU rfl rfl rfl rfl rfl ?_ | (refine JL.gloud rfl rfl rfl (l_callF e23 rfl rfl (accidents_spec E none 0 0 [] (some ⟨b5, 0, none⟩) 1 1 [sea0] _ rfl (by simp) ⟨Nat.le_refl _, by unfold maxLen; omega, .inr ⟨rfl, rfl⟩⟩ (by omega) rfl (by omega) (by intro x hx; simp at hx; subst hx; exact sea0_ok) (InL.ofRow Pick.head (by unfold maxLen; omega))) ?_); rintro _ _ ⟨a4, c4, rfl, rfl⟩))
  all_goals (first | refine JL.gskip rfl rfl rfl rfl rfl rfl ?_ | refine JL.gskipU rfl rfl rfl rfl rfl ?_ | refine JL.gstep rfl rfl rfl (y_len_slice hT rfl rfl rfl) rfl rfl ?_)
  all_goals (first | refine JL.gskip rfl rfl rfl rfl rfl rfl ?_ | refine JL.gskipU rfl rfl rfl rfl rfl ?_ | refine JL.gstep rfl rfl rfl (y_eql rfl rfl) rfl rfl ?_)
  all_goals (refine JL.step (y_pick rfl rfl rfl) rfl rfl rfl ?_)
  all_goals (refine JL.step (y_assign rfl) rfl rfl rfl ?_)
  all_goals refine JL.nil ?_
  all_goals refine JE.then_normal ?_
  all_goals
    refine J.ret ?_
    refine JE.ret1 (.inl rfl) rfl rfl (by (first | exact RV.tmp rfl | exact RV.cell1 hT rfl rfl rfl (by (exact Rd1.row (by (repeat (first | exact Pick.head | apply Pick.tail | apply Pick.app))) (by rfl))) | exact RV.cellN hT rfl rfl rfl (by (first | exact RdN.rowAll (by (repeat (first | exact Pick.head | apply Pick.tail | apply Pick.app))) | exact RdN.own (by (repeat (first | exact Pick.head | apply Pick.tail | apply Pick.app))))) (by (first | rfl | assumption | (simp; done) | omega)))) ?_
    exact ⟨rfl, fun w h => h.sup (by (repeat (first | exact Sup.refl | apply Sup.cons (by (repeat (first | exact Pick.head | apply Pick.tail | apply Pick.app))) | apply Sup.app | apply Sup.skip | apply Sup.skips)))⟩
end
end
section
open Go Go.SL
section
theorem strict_eq : ∀ {a b : List Int}, a.Pairwise (· < ·) → b.Pairwise (· < ·) → (∀ x, x ∈ a ↔ x ∈ b) → a = b
  | [], [], _, _, _ => rfl
  | [], y :: b, _, _, h => absurd ((h y).2 (by simp)) (by simp)
  | x :: a, [], _, _, h => absurd ((h x).1 (by simp)) (by simp)
  | x :: a, y :: b, ha, hb, h => by
    have ha1 := List.pairwise_cons.1 ha
    have hb1 := List.pairwise_cons.1 hb
    have e : x = y := by
      have h1 := (h x).1 (by simp)
      have h2 := (h y).2 (by simp)
      rcases List.mem_cons.1 h1 with q | q
      · exact q
      · rcases List.mem_cons.1 h2 with q2 | q2
        · exact q2.symm
        · have := hb1.1 x q; have := ha1.1 y q2; omega
    subst e
    rw [strict_eq ha1.2 hb1.2 fun z => ?_]
    have hz := h z
    rw [List.mem_cons, List.mem_cons] at hz
    constructor
    · intro q
      rcases hz.1 (.inr q) with q2 | q2
      · subst q2; exact absurd (ha1.1 z q) (by omega)
      · exact q2
    · intro q
      rcases hz.2 (.inr q) with q2 | q2
      · subst q2; exact absurd (hb1.1 z q) (by omega)
      · exact q2
end
end
section
open Go Go.SL
section
/-- Is what lies in a place covered? -/
def cvOf (keys : List (List Int)) (ls : List SealT) (i : Nat) (x : SealT) : Bool := match keyOf keys x.client with
  | none => false
  | some k => decide ((x.peer, k, x.round, x.body) ∈ (readF keys (ls.take i)).1)
/-- Who is told of what, place by place. -/
theorem calls_step {keys : List (List Int)} {ls : List SealT} {i : Nat} {x : SealT} (h : ls[i]? = some x) : (readF keys (ls.take (i + 1))).2.1 = (readF keys (ls.take i)).2.1 ++ (if x.opened then [(i, x, cvOf keys ls i x)] else []) := by
  rw [read_take h]
  have hct : (readF keys (ls.take i)).2.2 = i := by
    have := (List.getElem?_eq_some_iff.1 h).1
    rw [read_count, List.length_take]; omega
  unfold readStep cvOf
  rcases ho : x.opened with _ | _ <;> rcases hk : keyOf keys x.client with _ | k <;> simp [hct]
theorem acc_step {keys : List (List Int)} {ls : List SealT} {i : Nat} {x : SealT} (h : ls[i]? = some x) : accI (readF keys (ls.take (i + 1))).2.1 = accI (readF keys (ls.take i)).2.1 ++ (if x.opened && !cvOf keys ls i x then [(i : Int)] else []) := by
  rw [calls_step h]
  cases ho : x.opened
  · simp
  · rw [if_pos rfl, accI_snoc]
    cases cvOf keys ls i x <;> rfl
theorem calls_mem (keys : List (List Int)) (ls : List SealT) : ∀ (n : Nat), n ≤ ls.length → ∀ (i : Nat) (x : SealT) (cv : Bool), (i, x, cv) ∈ (readF keys (ls.take n)).2.1 ↔ i < n ∧ ls[i]? = some x ∧ x.opened = true ∧ cv = cvOf keys ls i x
  | 0, _, i, x, cv => by simp [readF]
  | n + 1, hn, i, x, cv => by
    obtain ⟨z, hz⟩ : ∃ z, ls[n]? = some z := ⟨ls[n], List.getElem?_eq_getElem _⟩
    rw [calls_step hz, List.mem_append, calls_mem keys ls n (by omega) i x cv]
    constructor
    · rintro (⟨h1, h2⟩ | h)
      · exact ⟨by omega, h2⟩
      · by_cases ho : z.opened = true
        · rw [if_pos ho, List.mem_singleton] at h
          simp only [Prod.mk.injEq] at h
          obtain ⟨rfl, rfl, rfl⟩ := h
          exact ⟨by omega, hz, ho, rfl⟩
        · rw [if_neg ho] at h; cases h
    · rintro ⟨h1, h2, h3, h4⟩
      rcases Nat.lt_or_ge i n with q | q
      · exact .inl ⟨q, h2, h3, h4⟩
      · obtain rfl : i = n := by omega
        rw [hz] at h2
        cases h2
        exact .inr (by rw [if_pos h3, h4]; simp)
/-- Has a client opened something of another one in a round, that is covered? -/
def hrd (keys : List (List Int)) (ls : List SealT) (a : Int) (kb : List Int) (n : Int) : Prop := ∃ i x, ls[i]? = some x ∧ x.client = a ∧ x.opened = true ∧ x.round = n ∧ x.peer = kb ∧ cvOf keys ls i x = true
/-- What comes behind makes no accident of what was covered. -/
theorem acc_more (keys : List (List Int)) (ls ms : List SealT) : ∃ t, accI (readF keys (ls ++ ms)).2.1 = accI (readF keys ls).2.1 ++ t ∧ ∀ z ∈ t, (ls.length : Int) ≤ z := by
  have h : ∀ k, k ≤ ms.length → ∃ t, accI (readF keys ((ls ++ ms).take (ls.length + k))).2.1 = accI (readF keys ls).2.1 ++ t ∧ ∀ z ∈ t, (ls.length : Int) ≤ z := by
    intro k
    induction k with
    | zero => intro _; exact ⟨[], by simp, by simp⟩
    | succ k ih =>
      intro hk
      obtain ⟨t, h1, h2⟩ := ih (by omega)
      have hl : ls.length + k < (ls ++ ms).length := by rw [List.length_append]; omega
      rw [show ls.length + (k + 1) = ls.length + k + 1 by omega, acc_step (List.getElem?_eq_getElem hl), h1, List.append_assoc]
      refine ⟨_, rfl, fun z hz => ?_⟩
      rcases List.mem_append.1 hz with q | q
      · exact h2 z q
      · split at q
        · obtain rfl := List.mem_singleton.1 q
          omega
        · cases q
  have := h ms.length (Nat.le_refl _)
  rwa [List.take_of_length_le (by rw [List.length_append]; omega)] at this
theorem acc_mem {keys : List (List Int)} {ls : List SealT} {z : Int} (h : z ∈ accI (readF keys ls).2.1) : ∃ i x, z = (i : Nat) ∧ ls[i]? = some x ∧ x.opened = true := by
  unfold accI at h
  obtain ⟨⟨i, x, cv⟩, hc, rfl⟩ := List.mem_map.1 h
  have hc := (List.mem_filter.1 hc).1
  have e : ls = ls.take ls.length := by rw [List.take_length]
  rw [e] at hc
  obtain ⟨_, h2, h3, _⟩ := (calls_mem keys ls ls.length (Nat.le_refl _) i x cv).1 hc
  exact ⟨i, x, rfl, h2, h3⟩
/-- Rounds that are good for two: in order, each once. -/
structure GoodL (keys : List (List Int)) (ls : List SealT) (a b : Int) (ka kb : List Int) (gs : List Int) : Prop where
  sort : gs.Pairwise (· < ·)
  mem : ∀ n, n ∈ gs ↔ hrd keys ls a kb n ∧ hrd keys ls b ka n
theorem GoodL.one {keys : List (List Int)} {ls : List SealT} {a b : Int} {ka kb : List Int} {g1 g2 : List Int} (h1 : GoodL keys ls a b ka kb g1) (h2 : GoodL keys ls a b ka kb g2) : g1 = g2 :=
  strict_eq h1.sort h2.sort fun x => by rw [h1.mem, h2.mem]
theorem GoodL.turn {keys : List (List Int)} {ls : List SealT} {a b : Int} {ka kb : List Int} {gs : List Int} (h : GoodL keys ls a b ka kb gs) : GoodL keys ls b a kb ka gs := ⟨h.sort, fun n => by rw [h.mem, and_comm]⟩
end
end
end Go.Proofs.YtfohdnclpbipeaaDoor
