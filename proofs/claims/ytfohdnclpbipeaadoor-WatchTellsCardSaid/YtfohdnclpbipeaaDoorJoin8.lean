import Derived.Test.YtfohdnclpbipeaaDoorJoin6
import Derived.Test.YtfohdnclpbipeaaDoorJoin7
namespace Go.Proofs.YtfohdnclpbipeaaDoor
section
open Go Go.SL
section
/-- A list in order is the one list in order that has its elements. -/
theorem sorted_one : ∀ {ys xs : List Int}, xs.Perm ys → (xs.Pairwise fun x y => Sort.ltInt y x = false) → ys.Pairwise (· ≤ ·) → xs = ys
  | [], xs, h, _, _ => h.eq_nil
  | y :: ys, xs, h, hx, hy => by
    cases xs with
    | nil => exact absurd h.symm.eq_nil (by simp)
    | cons x xs =>
      have hx1 := List.pairwise_cons.1 hx
      have hy1 := List.pairwise_cons.1 hy
      have e : x = y := by
        have a1 : x ∈ y :: ys := h.subset (by simp)
        have a2 : y ∈ x :: xs := h.symm.subset (by simp)
        rcases List.mem_cons.1 a1 with q | q
        · exact q
        · rcases List.mem_cons.1 a2 with q2 | q2
          · exact q2.symm
          · have l1 := hy1.1 x q
            have l2 := hx1.1 y q2
            simp only [Sort.ltInt, decide_eq_false_iff_not] at l2
            omega
      subst e
      rw [sorted_one (List.Perm.cons_inv h) hx1.2 hy1.2]
theorem dig_small {u : Nat} (h : u < 10) : dig u = [(48 + u : Int)] := by
  unfold dig
  rw [Lib.decDigits_one h]
  simp
  omega
theorem dig_big {u : Nat} (h : ¬ u < 10) : dig u = dig (u / 10) ++ [(48 + u % 10 : Int)] := by
  unfold dig
  rw [Lib.decDigits, dif_neg h, List.map_append]
  congr 1
  simp
  omega
theorem woke_shape : strOf (shapeB [((3, 0, 100, 1, 205) : WireT)]) = ⟨#[51, 32, 48, 32, 49, 48, 48, 32, 49, 32, 50, 48, 53, 10]⟩ := by
  have e : shapeB [((3, 0, 100, 1, 205) : WireT)] = [51, 32, 48, 32, 49, 48, 48, 32, 49, 32, 50, 48, 53, 10] := by
    have n0 : numT 0 = [48] := by rw [numT, if_neg (by decide)]; exact dig_small (by decide)
    have n1 : numT 1 = [49] := by rw [numT, if_neg (by decide)]; exact dig_small (by decide)
    have n3 : numT 3 = [51] := by rw [numT, if_neg (by decide)]; exact dig_small (by decide)
    have n100 : numT 100 = [49, 48, 48] := by
      rw [numT, if_neg (by decide), show (100 : Int).toNat = 100 from rfl, dig_big (by decide), show 100 / 10 = 10 from rfl, dig_big (by decide), show 10 / 10 = 1 from rfl, dig_small (by decide)]; rfl
    have n205 : numT 205 = [50, 48, 53] := by
      rw [numT, if_neg (by decide), show (205 : Int).toNat = 205 from rfl, dig_big (by decide), show 205 / 10 = 20 from rfl, dig_big (by decide), show 20 / 10 = 2 from rfl, dig_small (by decide)]; rfl
    simp only [shapeB, List.flatMap_cons, List.flatMap_nil, lineB, n0, n1, n3, n100, n205]
    rfl
  rw [e]
  rfl
theorem woke_runs {ys : List Int} (h : ys.Perm [1, 2, 3]) (hs : ys.Pairwise fun x y => Sort.ltInt y x = false) : (runsF 3 (Lib.compact ys)).1 = 1 := by
  rw [sorted_one h hs (by decide)]
  decide
theorem wire0_ok : WiOk (3, 0, 100, 1, 205) := by unfold WiOk R64; decide
theorem fill_123 : Instr.fill (fun i => some (i * 1, 1)) ((Array.range (3 * 1)).map ((Value.int .u64 0).cells[· % (Value.int .u64 0).cells.size]!)) [(0, .int .u64 1), (1, .int .u64 2), (2, .int .u64 3)] = some (ints .u64 [1, 2, 3]).toArray := by
  have h := fill_eq (fun i => some (i * 1, 1)) [(0, 1), (1, 1), (2, 1)] [(0, .int .u64 1), (1, .int .u64 2), (2, .int .u64 3)] [Value.int .u64 0, Value.int .u64 0, Value.int .u64 0] (by intro q hq; simp at hq; rcases hq with rfl | rfl | rfl <;> rfl) (by simp [fillOk, Value.cells])
  have e : ((Array.range (3 * 1)).map ((Value.int .u64 0).cells[· % (Value.int .u64 0).cells.size]!)) = [Value.int .u64 0, Value.int .u64 0, Value.int .u64 0].toArray := by kernel_rfl
  rw [e, h]
  rfl
def sea0 : SealT := ⟨0, true, List.replicate 32 0, 0, List.replicate 130 0⟩
theorem sea0_ok : SeOk sea0 := ⟨by simp [sea0], by simp [sea0]⟩
theorem woke_acc : accI (readF [] [sea0]).2.1 = [0] := rfl
end
section
attribute [local irreducible] J JL JE JM LS Y Fc RV Code.wp wpList Code.wpIn wpListIn
attribute [local irreducible] Yc Sort.ltInt
variable (E : World)
set_option maxRecDepth 100000 in
theorem wakes_spec (l : List HProp) (ht : T10 E l) : Fc prog E 11 [].toArray l (fun v l' => v = .bool true ∧ l' = l) := by
  refine Fc.eqs ?_
  refine Fc.of_body (c := ?codeC) Tryd.func11 ?hb Tryd.ntmps11 ?hl ?_
  case hb => exact rfl
  case hl => exact rfl
  refine J.seq ?_
  refine J.region ?_
  refine JL.step (y_assign rfl) rfl rfl rfl ?_
  refine JL.nil ?_
  refine JE.then_normal ?_
  refine J.seq ?_
  refine J.region ?_
  refine JL.step (y_build (cs := [_, _, _, _, _]) hT rfl rfl rfl rfl rfl rfl ⟨⟨(by (first | rfl | assumption | (simp; done) | omega)), Nat.le_of_ble_eq_true rfl⟩, ⟨⟨(by (first | rfl | assumption | (simp; done) | omega)), Nat.le_of_ble_eq_true rfl⟩, ⟨⟨(by (first | rfl | assumption | (simp; done) | omega)), Nat.le_of_ble_eq_true rfl⟩, ⟨⟨(by (first | rfl | assumption | (simp; done) | omega)), Nat.le_of_ble_eq_true rfl⟩, ⟨⟨(by (first | rfl | assumption | (simp; done) | omega)), Nat.le_of_ble_eq_true rfl⟩, trivial⟩⟩⟩⟩⟩ rfl) rfl rfl rfl ?_
  refine JL.loud rfl (l_buildSliceP hT rfl rfl rfl rfl rfl rfl rfl (by (first | exact fill_one rfl (by first | assumption | rfl | (simp; done)) | rfl | simp)) rfl (fun b1 => ?_))
  refine JL.step (y_assign rfl) rfl rfl rfl ?_
  refine JL.nil ?_
  refine JE.then_normal ?_
  refine J.seq ?_
  refine J.region ?_
  refine JL.step (y_move rfl) rfl rfl rfl ?_
  refine JL.loud rfl (l_callF e13 rfl rfl (shape_spec E (some ⟨b1, 0, none⟩) 1 1 [(3, 0, 100, 1, 205)] _ rfl (by omega) (by intro w hw; simp at hw; subst hw; exact wire0_ok) (InL.ofRow Pick.head (by unfold maxLen; omega)) (by (repeat (first | assumption | apply T10.cons | apply T10.app)))) ?_)
  rintro _ _ ⟨rfl, rfl⟩
  refine JL.step (v := .bool true) (Y.val (y_str_eq rfl rfl) (by rw [woke_shape]; rfl)) rfl rfl rfl ?_
  refine JL.step (y_move rfl) rfl rfl rfl ?_
  all_goals (first | (refine JL.gsplit_dec rfl rfl rfl (fun h => ?_) (fun h => ?_) <;> try (first | (exfalso; omega) | exact absurd rfl h)) | (refine JL.gsplit rfl rfl rfl (fun h => ?_) (fun h => ?_) <;> try (first | cases h | (exfalso; simp at h; done))) | skip)
  all_goals (first | refine JL.gskip rfl rfl rfl rfl rfl rfl ?_ | refine JL.gskipU rfl rfl rfl rfl rfl ?_ | refine JL.gstep rfl rfl rfl (y_move rfl) rfl rfl ?_)
  all_goals (first | refine JL.gskip rfl rfl rfl rfl rfl rfl ?_ | refine JL.gskipU rfl rfl rfl rfl rfl ?_ | (refine JL.gloud rfl rfl rfl (l_callF e16 rfl rfl (flows_spec E (some ⟨b1, 0, none⟩) 1 1 [(3, 0, 100, 1, 205)] _ rfl (by omega) (by intro w hw; simp at hw; subst hw; exact wire0_ok) (InL.ofRow Pick.head (by unfold maxLen; omega))) ?_); rintro _ _ ⟨vs, a, c', hvs, _, rfl, rfl⟩))
  all_goals (first | refine JL.gskip rfl rfl rfl rfl rfl rfl ?_ | refine JL.gskipU rfl rfl rfl rfl rfl ?_ | refine JL.gstep rfl rfl rfl (y_len_slice hT rfl rfl rfl) rfl rfl ?_)
  all_goals (first | refine JL.gskip rfl rfl rfl rfl rfl rfl ?_ | refine JL.gskipU rfl rfl rfl rfl rfl ?_ | refine JL.gstep rfl rfl rfl (v := .bool true) (Y.val (y_eql rfl rfl) (by rw [hvs.length_eq]; rfl)) rfl rfl ?_)
  all_goals (refine JL.step (y_pick rfl rfl rfl) rfl rfl rfl ?_)
  all_goals (refine JL.step (y_move rfl) rfl rfl rfl ?_)
  all_goals (first | refine JL.gskip rfl rfl rfl rfl rfl rfl ?_ | refine JL.gskipU rfl rfl rfl rfl rfl ?_ | refine JL.gloud rfl rfl rfl (l_buildSliceP (cs := ints .u64 [1, 2, 3]) hT rfl rfl rfl rfl rfl rfl rfl fill_123 rfl (fun b3 => ?_)))
  all_goals (first | refine JL.gskip rfl rfl rfl rfl rfl rfl ?_ | refine JL.gskipU rfl rfl rfl rfl rfl ?_ | (refine JL.gloud rfl rfl rfl (l_callF e18 rfl rfl (runs_spec E (some ⟨b3, 0, none⟩) 3 3 [1, 2, 3] 3 _ rfl (by omega) (InL.ofRow Pick.head (by unfold maxLen; omega))) ?_); rintro _ _ ⟨z, rfl, _, hz, rfl⟩))
  all_goals (first | refine JL.gskip rfl rfl rfl rfl rfl rfl ?_ | refine JL.gskipU rfl rfl rfl rfl rfl ?_ | refine JL.gstep rfl rfl rfl (v := .bool true) (Y.val (y_eql rfl rfl) (by obtain ⟨ys, h1, h2, rfl⟩ := hz (by decide); rw [woke_runs h1 h2]; rfl)) rfl rfl ?_)
  all_goals (refine JL.step (y_pick rfl rfl rfl) rfl rfl rfl ?_)
  all_goals (refine JL.step (y_move rfl) rfl rfl rfl ?_)
  all_goals (first | refine JL.gskip rfl rfl rfl rfl rfl rfl ?_ | refine JL.gskipU rfl rfl rfl rfl rfl ?_ | refine JL.gstep rfl rfl rfl (y_build (cs := (seE sea0).tail) hT rfl rfl rfl rfl rfl rfl ⟨⟨rfl, Nat.le_of_ble_eq_true rfl⟩, trivial⟩ rfl) rfl rfl ?_)
  all_goals (first | refine JL.gskip rfl rfl rfl rfl rfl rfl ?_ | refine JL.gskipU rfl rfl rfl rfl rfl ?_ | refine JL.gstep rfl rfl rfl (y_build (cs := seE sea0) hT rfl rfl rfl rfl rfl rfl ⟨⟨rfl, Nat.le_of_ble_eq_true rfl⟩, trivial⟩ rfl) rfl rfl ?_)
  all_goals (first | refine JL.gskip rfl rfl rfl rfl rfl rfl ?_ | refine JL.gskipU rfl rfl rfl rfl rfl ?_ | refine JL.gloud rfl rfl rfl (l_buildSliceP (cs := seE sea0) hT rfl rfl rfl rfl rfl rfl rfl (fill_one rfl (seE_length sea0_ok)) rfl (fun b5 => ?_)))
  all_goals (first | refine JL.gskip rfl rfl rfl rfl rfl rfl ?_ | refine JL.gskipU rfl rfl rfl rfl rfl ?_ | (refine JL.gloud rfl rfl rfl (l_callF e23 rfl rfl (accidents_spec E none 0 0 [] (some ⟨b5, 0, none⟩) 1 1 [sea0] _ rfl (by simp) ⟨Nat.le_refl _, by unfold maxLen; omega, .inr ⟨rfl, rfl⟩⟩ (by omega) rfl (by omega) (by intro x hx; simp at hx; subst hx; exact sea0_ok) (InL.ofRow Pick.head (by unfold maxLen; omega))) ?_); rintro _ _ ⟨a4, c4, rfl, rfl⟩))
  all_goals (first | refine JL.gskip rfl rfl rfl rfl rfl rfl ?_ | refine JL.gskipU rfl rfl rfl rfl rfl ?_ | refine JL.gstep rfl rfl rfl (y_len_slice hT rfl rfl rfl) rfl rfl ?_)
  all_goals (first | refine JL.gskip rfl rfl rfl rfl rfl rfl ?_ | refine JL.gskipU rfl rfl rfl rfl rfl ?_ | refine JL.gstep rfl rfl rfl (y_eql rfl rfl) rfl rfl ?_)
  all_goals (refine JL.step (y_pick rfl rfl rfl) rfl rfl rfl ?_)
  all_goals (refine JL.step (y_assign rfl) rfl rfl rfl ?_)
  all_goals refine JL.nil ?_
  all_goals refine JE.then_normal ?_
  all_goals
    refine J.ret ?_
    refine JE.ret1 (.inl rfl) rfl rfl (by (first | exact RV.tmp rfl | exact RV.cell1 hT rfl rfl rfl (by (exact Rd1.row (by (repeat (first | exact Pick.head | apply Pick.tail | apply Pick.app))) (by rfl))) | exact RV.cellN hT rfl rfl rfl (by (first | exact RdN.rowAll (by (repeat (first | exact Pick.head | apply Pick.tail | apply Pick.app))) | exact RdN.own (by (repeat (first | exact Pick.head | apply Pick.tail | apply Pick.app))))) (by (first | rfl | assumption | (simp; done) | omega)))) ?_
    exact ⟨rfl, fun w h => h.sup (by (repeat (first | exact Sup.refl | apply Sup.cons (by (repeat (first | exact Pick.head | apply Pick.tail | apply Pick.app))) | apply Sup.app | apply Sup.skip | apply Sup.skips)))⟩
end
end
section
open Go Go.SL
section
theorem dig_step (u : Nat) : (u < 10 ∧ dig u = [(48 + u : Int)]) ∨ (¬ u < 10 ∧ dig u = dig (u / 10) ++ [(48 + u % 10 : Int)]) := by
  by_cases h : u < 10
  · exact .inl ⟨h, dig_small h⟩
  · exact .inr ⟨h, dig_big h⟩
theorem dig_byte : ∀ (u : Nat), ∀ x ∈ dig u, 48 ≤ x ∧ x ≤ 57 := by
  intro u
  induction u using Nat.strongRecOn with
  | ind u ih =>
    intro x hx
    rcases dig_step u with ⟨h, e⟩ | ⟨h, e⟩
    · rw [e] at hx
      obtain rfl := List.mem_singleton.1 hx
      omega
    · rw [e] at hx
      rcases List.mem_append.1 hx with q | q
      · exact ih (u / 10) (by omega) x q
      · obtain rfl := List.mem_singleton.1 q
        omega
/-- The number that digits tell. -/
def undig (xs : List Int) : Int := xs.foldl (fun a x => a * 10 + (x - 48)) 0
theorem undig_snoc (xs : List Int) (x : Int) : undig (xs ++ [x]) = undig xs * 10 + (x - 48) := by
  unfold undig
  rw [List.foldl_append]; rfl
theorem undig_dig : ∀ (u : Nat), undig (dig u) = u := by
  intro u
  induction u using Nat.strongRecOn with
  | ind u ih =>
    rcases dig_step u with ⟨h, e⟩ | ⟨h, e⟩
    · rw [e]
      show (0 : Int) * 10 + (48 + u - 48) = u
      omega
    · rw [e, undig_snoc, ih (u / 10) (by omega)]
      omega
theorem dig_inj {u v : Nat} (h : dig u = dig v) : u = v := by
  have := undig_dig u
  rw [h, undig_dig] at this
  omega
theorem numT_byte (i : Int) : ∀ x ∈ numT i, x = 45 ∨ 48 ≤ x ∧ x ≤ 57 := by
  intro x hx
  unfold numT at hx
  split at hx
  · rcases List.mem_cons.1 hx with q | q
    · exact .inl q
    · exact .inr (dig_byte _ x q)
  · exact .inr (dig_byte _ x hx)
theorem numT_inj {i j : Int} (h : numT i = numT j) : i = j := by
  have hm : ∀ (u : Nat) (xs : List Int), dig u ≠ 45 :: xs := fun u xs e => by
    have := dig_byte u 45 (by rw [e]; simp)
    omega
  unfold numT at h
  split at h <;> split at h
  · simp only [List.cons.injEq, true_and] at h
    have := dig_inj h
    omega
  · exact absurd h.symm (hm _ _)
  · exact absurd h (hm _ _)
  · have := dig_inj h
    omega
/-- A number and what ends it. -/
theorem num_cut {i j c d : Int} {r s : List Int} (hc : c = 32 ∨ c = 10) (hd : d = 32 ∨ d = 10) (h : numT i ++ c :: r = numT j ++ d :: s) : i = j ∧ c = d ∧ r = s := by
  have hl : ∀ (a b : List Int), (∀ x ∈ a, x ≠ 32 ∧ x ≠ 10) → (∀ x ∈ b, x ≠ 32 ∧ x ≠ 10) → a ++ c :: r = b ++ d :: s → a = b ∧ c :: r = d :: s := by
    intro a
    induction a with
    | nil =>
      intro b _ hb e
      cases b with
      | nil => exact ⟨rfl, e⟩
      | cons y b =>
        simp only [List.nil_append, List.cons_append, List.cons.injEq] at e
        have := hb y (by simp)
        omega
    | cons x a ih =>
      intro b ha hb e
      cases b with
      | nil =>
        simp only [List.nil_append, List.cons_append, List.cons.injEq] at e
        have := ha x (by simp)
        omega
      | cons y b =>
        simp only [List.cons_append, List.cons.injEq] at e
        obtain ⟨h1, h2⟩ := ih b (fun z hz => ha z (List.mem_cons_of_mem _ hz)) (fun z hz => hb z (List.mem_cons_of_mem _ hz)) e.2
        exact ⟨by rw [e.1, h1], h2⟩
  obtain ⟨h1, h2⟩ := hl (numT i) (numT j) (fun x hx => by have := numT_byte i x hx; omega) (fun x hx => by have := numT_byte j x hx; omega) h
  simp only [List.cons.injEq] at h2
  exact ⟨numT_inj h1, h2.1, h2.2⟩
theorem line_cut {v w : WireT} {r s : List Int} (h : lineB v ++ r = lineB w ++ s) : v = w ∧ r = s := by
  simp only [lineB, List.append_assoc, List.cons_append, List.nil_append] at h
  obtain ⟨e1, _, h⟩ := num_cut (.inl rfl) (.inl rfl) h
  obtain ⟨e2, _, h⟩ := num_cut (.inl rfl) (.inl rfl) h
  obtain ⟨e3, _, h⟩ := num_cut (.inl rfl) (.inl rfl) h
  obtain ⟨e4, _, h⟩ := num_cut (.inl rfl) (.inl rfl) h
  obtain ⟨e5, _, h⟩ := num_cut (.inr rfl) (.inr rfl) h
  exact ⟨by obtain ⟨a, b, c, d, e⟩ := v; obtain ⟨a', b', c', d', e'⟩ := w; simp only at e1 e2 e3 e4 e5; rw [e1, e2, e3, e4, e5], h⟩
theorem lineB_ne (w : WireT) (r : List Int) : lineB w ++ r ≠ [] := by
  intro h
  have h2 := congrArg List.length h
  simp only [lineB, List.length_append, List.length_cons, List.length_nil] at h2
  omega
theorem shapeB_inj : ∀ {a b : List WireT}, shapeB a = shapeB b → a = b
  | [], [], _ => rfl
  | [], w :: b, h => by simp only [shapeB, List.flatMap_cons, List.flatMap_nil] at h; exact absurd h.symm (lineB_ne w _)
  | v :: a, [], h => by simp only [shapeB, List.flatMap_cons, List.flatMap_nil] at h; exact absurd h (lineB_ne v _)
  | v :: a, w :: b, h => by
    simp only [shapeB, List.flatMap_cons] at h
    obtain ⟨rfl, h2⟩ := line_cut h
    rw [shapeB_inj (a := a) (b := b) h2]
theorem line_byte (w : WireT) : ∀ x ∈ lineB w, 0 ≤ x ∧ x ≤ 255 := by
  intro x hx
  have h := fun i => numT_byte i x
  simp only [lineB, List.mem_append, List.mem_cons, List.not_mem_nil, or_false] at hx
  rcases hx with q | q | q | q | q | q | q | q | q | q
  · have := h _ q; omega
  · omega
  · have := h _ q; omega
  · omega
  · have := h _ q; omega
  · omega
  · have := h _ q; omega
  · omega
  · have := h _ q; omega
  · omega
theorem shape_byte (ws : List WireT) : ∀ x ∈ shapeB ws, 0 ≤ x ∧ x ≤ 255 := by
  intro x hx
  obtain ⟨w, _, h⟩ := List.mem_flatMap.1 hx
  exact line_byte w x h
theorem shape_eq_iff (a b : List WireT) : strOf (shapeB a) = strOf (shapeB b) ↔ a = b :=
  ⟨fun h => shapeB_inj (strOf_inj (shape_byte a) (shape_byte b) h), fun h => by rw [h]⟩
theorem shape_count (ws : List WireT) : (shapeB ws).count 10 = ws.length := by
  induction ws with
  | nil => rfl
  | cons w r ih =>
    have h : ∀ i, (numT i).count 10 = 0 := fun i => List.count_eq_zero.2 fun q => by have := numT_byte i 10 q; omega
    simp only [shapeB, List.flatMap_cons] at ih ⊢
    rw [List.count_append, ih]
    simp [lineB, List.count_append, List.count_cons, h]
    omega
theorem shape_app (a b : List WireT) : shapeB (a ++ b) = shapeB a ++ shapeB b := by
  unfold shapeB
  rw [List.flatMap_append]
end
end
end Go.Proofs.YtfohdnclpbipeaaDoor
