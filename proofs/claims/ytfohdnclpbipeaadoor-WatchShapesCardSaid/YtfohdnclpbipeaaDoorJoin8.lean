import Derived.Test.YtfohdnclpbipeaaDoorJoin4
import Derived.Test.YtfohdnclpbipeaaDoorJoin6
import Derived.Test.YtfohdnclpbipeaaDoorJoin7
namespace Go.Proofs.YtfohdnclpbipeaaDoor
section
open Go Go.SL
section
/-- A list in order is the one list in order that has its elements. -/
theorem sorted_one : ∀ {ys xs : List Int}, xs.Perm ys → (xs.Pairwise fun x y => Sort.ltInt y x = false) → ys.Pairwise (· ≤ ·) → xs = ys
  | [], xs, h, _, _ => h.eq_nil
  | y :: ys, xs, h, hx, hy => by
    cases xs with
    | nil => exact absurd h.symm.eq_nil (by simp)
    | cons x xs =>
      have hx1 := List.pairwise_cons.1 hx
      have hy1 := List.pairwise_cons.1 hy
      have e : x = y := by
        have a1 : x ∈ y :: ys := h.subset (by simp)
        have a2 : y ∈ x :: xs := h.symm.subset (by simp)
        rcases List.mem_cons.1 a1 with q | q
        · exact q
        · rcases List.mem_cons.1 a2 with q2 | q2
          · exact q2.symm
          · have l1 := hy1.1 x q
            have l2 := hx1.1 y q2
            simp only [Sort.ltInt, decide_eq_false_iff_not] at l2
            omega
      subst e
      rw [sorted_one (List.Perm.cons_inv h) hx1.2 hy1.2]
theorem dig_small {u : Nat} (h : u < 10) : dig u = [(48 + u : Int)] := by
  unfold dig
  rw [Lib.decDigits_one h]
  simp
  omega
theorem dig_big {u : Nat} (h : ¬ u < 10) : dig u = dig (u / 10) ++ [(48 + u % 10 : Int)] := by
  unfold dig
  rw [Lib.decDigits, dif_neg h, List.map_append]
  congr 1
  simp
  omega
theorem woke_shape : strOf (shapeB [((3, 0, 100, 1, 205) : WireT)]) = ⟨#[51, 32, 48, 32, 49, 48, 48, 32, 49, 32, 50, 48, 53, 10]⟩ := by
  have e : shapeB [((3, 0, 100, 1, 205) : WireT)] = [51, 32, 48, 32, 49, 48, 48, 32, 49, 32, 50, 48, 53, 10] := by
    have n0 : numT 0 = [48] := by rw [numT, if_neg (by decide)]; exact dig_small (by decide)
    have n1 : numT 1 = [49] := by rw [numT, if_neg (by decide)]; exact dig_small (by decide)
    have n3 : numT 3 = [51] := by rw [numT, if_neg (by decide)]; exact dig_small (by decide)
    have n100 : numT 100 = [49, 48, 48] := by
      rw [numT, if_neg (by decide), show (100 : Int).toNat = 100 from rfl, dig_big (by decide), show 100 / 10 = 10 from rfl, dig_big (by decide), show 10 / 10 = 1 from rfl, dig_small (by decide)]; rfl
    have n205 : numT 205 = [50, 48, 53] := by
      rw [numT, if_neg (by decide), show (205 : Int).toNat = 205 from rfl, dig_big (by decide), show 205 / 10 = 20 from rfl, dig_big (by decide), show 20 / 10 = 2 from rfl, dig_small (by decide)]; rfl
    simp only [shapeB, List.flatMap_cons, List.flatMap_nil, lineB, n0, n1, n3, n100, n205]
    rfl
  rw [e]
  rfl
theorem woke_runs {ys : List Int} (h : ys.Perm [1, 2, 3]) (hs : ys.Pairwise fun x y => Sort.ltInt y x = false) : (runsF 3 (Lib.compact ys)).1 = 1 := by
  rw [sorted_one h hs (by decide)]
  decide
theorem wire0_ok : WiOk (3, 0, 100, 1, 205) := by unfold WiOk R64; decide
theorem fill_123 : Instr.fill (fun i => some (i * 1, 1)) ((Array.range (3 * 1)).map ((Value.int .u64 0).cells[· % (Value.int .u64 0).cells.size]!)) [(0, .int .u64 1), (1, .int .u64 2), (2, .int .u64 3)] = some (ints .u64 [1, 2, 3]).toArray := by
  have h := fill_eq (fun i => some (i * 1, 1)) [(0, 1), (1, 1), (2, 1)] [(0, .int .u64 1), (1, .int .u64 2), (2, .int .u64 3)] [Value.int .u64 0, Value.int .u64 0, Value.int .u64 0] (by intro q hq; simp at hq; rcases hq with rfl | rfl | rfl <;> rfl) (by simp [fillOk, Value.cells])
  have e : ((Array.range (3 * 1)).map ((Value.int .u64 0).cells[· % (Value.int .u64 0).cells.size]!)) = [Value.int .u64 0, Value.int .u64 0, Value.int .u64 0].toArray := by kernel_rfl
  rw [e, h]
  rfl
def sea0 : SealT := ⟨0, true, List.replicate 32 0, 0, List.replicate 130 0⟩
theorem sea0_ok : SeOk sea0 := ⟨by simp [sea0], by simp [sea0]⟩
theorem woke_acc : accI (readF [] [sea0]).2.1 = [0] := rfl
end
section
attribute [local irreducible] J JL JE JM LS Y Fc RV Code.wp wpList Code.wpIn wpListIn
attribute [local irreducible] Yc Sort.ltInt
variable (E : World)
set_option maxRecDepth 100000 in
theorem wakes_spec (l : List HProp) (ht : T10 E l) : Fc prog E 11 [].toArray l (fun v l' => v = .bool true ∧ l' = l) := by
  refine Fc.eqs ?_
  refine Fc.of_body (c := ?codeC) Tryd.func11 ?hb Tryd.ntmps11 ?hl ?_
  case hb => exact rfl
  case hl => exact rfl
  refine J.seq ?_
  refine J.region ?_
  refine JL.step (y_assign rfl) rfl rfl rfl ?_
  refine JL.nil ?_
  refine JE.then_normal ?_
  refine J.seq ?_
  refine J.region ?_
  refine JL.step (y_build (cs := [_, _, _, _, _]) hT rfl rfl rfl rfl rfl rfl ⟨⟨(by (first | rfl | assumption | (simp; done) | omega)), Nat.le_of_ble_eq_true rfl⟩, ⟨⟨(by (first | rfl | assumption | (simp; done) | omega)), Nat.le_of_ble_eq_true rfl⟩, ⟨⟨(by (first | rfl | assumption | (simp; done) | omega)), Nat.le_of_ble_eq_true rfl⟩, ⟨⟨(by (first | rfl | assumption | (simp; done) | omega)), Nat.le_of_ble_eq_true rfl⟩, ⟨⟨(by (first | rfl | assumption | (simp; done) | omega)), Nat.le_of_ble_eq_true rfl⟩, trivial⟩⟩⟩⟩⟩ rfl) rfl rfl rfl ?_
  refine JL.loud rfl (l_buildSliceP hT rfl rfl rfl rfl rfl rfl rfl (by (first | exact fill_one rfl (by first | assumption | rfl | (simp; done)) | rfl | simp)) rfl (fun b1 => ?_))
  refine JL.step (y_assign rfl) rfl rfl rfl ?_
  refine JL.nil ?_
  refine JE.then_normal ?_
  refine J.seq ?_
  refine J.region ?_
  refine JL.step (y_move rfl) rfl rfl rfl ?_
  refine JL.loud rfl (l_callF e13 rfl rfl (shape_spec E (some ⟨b1, 0, none⟩) 1 1 [(3, 0, 100, 1, 205)] _ rfl (by omega) (by intro w hw; simp at hw; subst hw; exact wire0_ok) (InL.ofRow Pick.head (by unfold maxLen; omega)) (by (repeat (first | assumption | apply T10.cons | apply T10.app)))) ?_)
  rintro _ _ ⟨rfl, rfl⟩
  refine JL.step (v := .bool true) (Y.val (y_str_eq rfl rfl) (by rw [woke_shape]; rfl)) rfl rfl rfl ?_
  refine JL.step (y_move rfl) rfl rfl rfl ?_
  all_goals (first | (refine JL.gsplit_dec rfl rfl rfl (fun h => ?_) (fun h => ?_) <;> try (first | (exfalso; omega) | exact absurd rfl h)) | (refine JL.gsplit rfl rfl rfl (fun h => ?_) (fun h => ?_) <;> try (first | cases h | (exfalso; simp at h; done))) | skip)
  all_goals (first | refine JL.gskip rfl rfl rfl rfl rfl rfl ?_ | refine JL.gskipU rfl rfl rfl rfl rfl ?_ | refine JL.gstep rfl rfl rfl (y_move rfl) rfl rfl ?_)
  all_goals (first | refine JL.gskip rfl rfl rfl rfl rfl rfl ?_ | refine JL.gskipU rfl rfl rfl rfl rfl ?_ | (refine JL.gloud rfl rfl rfl (l_callF e16 rfl rfl (flows_spec E (some ⟨b1, 0, none⟩) 1 1 [(3, 0, 100, 1, 205)] _ rfl (by omega) (by intro w hw; simp at hw; subst hw; exact wire0_ok) (InL.ofRow Pick.head (by unfold maxLen; omega))) ?_); rintro _ _ ⟨vs, a, c', hvs, _, rfl, rfl⟩))
  all_goals (first | refine JL.gskip rfl rfl rfl rfl rfl rfl ?_ | refine JL.gskipU rfl rfl rfl rfl rfl ?_ | refine JL.gstep rfl rfl rfl (y_len_slice hT rfl rfl rfl) rfl rfl ?_)
  all_goals (first | refine JL.gskip rfl rfl rfl rfl rfl rfl ?_ | refine JL.gskipU rfl rfl rfl rfl rfl ?_ | refine JL.gstep rfl rfl rfl (v := .bool true) (Y.val (y_eql rfl rfl) (by rw [hvs.length_eq]; rfl)) rfl rfl ?_)
  all_goals (refine JL.step (y_pick rfl rfl rfl) rfl rfl rfl ?_)
  all_goals (refine JL.step (y_move rfl) rfl rfl rfl ?_)
  all_goals (first | refine JL.gskip rfl rfl rfl rfl rfl rfl ?_ | refine JL.gskipU rfl rfl rfl rfl rfl ?_ | refine JL.gloud rfl rfl rfl (l_buildSliceP (cs := ints .u64 [1, 2, 3]) hT rfl rfl rfl rfl rfl rfl rfl fill_123 rfl (fun b3 => ?_)))
  all_goals (first | refine JL.gskip rfl rfl rfl rfl rfl rfl ?_ | refine JL.gskipU rfl rfl rfl rfl rfl ?_ | (refine JL.gloud rfl rfl rfl (l_callF e18 rfl rfl (runs_spec E (some ⟨b3, 0, none⟩) 3 3 [1, 2, 3] 3 _ rfl (by omega) (InL.ofRow Pick.head (by unfold maxLen; omega))) ?_); rintro _ _ ⟨z, rfl, _, hz, rfl⟩))
  all_goals (first | refine JL.gskip rfl rfl rfl rfl rfl rfl ?_ | refine JL.gskipU rfl rfl rfl rfl rfl ?_ | refine JL.gstep rfl rfl rfl (v := .bool true) (Y.val (y_eql rfl rfl) (by obtain ⟨ys, h1, h2, rfl⟩ := hz (by decide); rw [woke_runs h1 h2]; rfl)) rfl rfl ?_)
  all_goals (refine JL.step (y_pick rfl rfl rfl) rfl rfl rfl ?_)
  all_goals (refine JL.step (y_move rfl) rfl rfl rfl ?_)
  all_goals (first | refine JL.gskip rfl rfl rfl rfl rfl rfl ?_ | refine JL.gskipU rfl rfl rfl rfl rfl ?_ | refine JL.gstep rfl rfl rfl (y_build (cs := (seE sea0).tail) hT rfl rfl rfl rfl rfl rfl ⟨⟨rfl, Nat.le_of_ble_eq_true rfl⟩, trivial⟩ rfl) rfl rfl ?_)
  all_goals (first | refine JL.gskip rfl rfl rfl rfl rfl rfl ?_ | refine JL.gskipU rfl rfl rfl rfl rfl ?_ | refine JL.gstep rfl rfl rfl (y_build (cs := seE sea0) hT rfl rfl rfl rfl rfl rfl ⟨⟨rfl, Nat.le_of_ble_eq_true rfl⟩, trivial⟩ rfl) rfl rfl ?_)
  all_goals (first | refine JL.gskip rfl rfl rfl rfl rfl rfl ?_ | refine JL.gskipU rfl rfl rfl rfl rfl ?_ | refine JL.gloud rfl rfl rfl (l_buildSliceP (cs := seE sea0) hT rfl rfl rfl rfl rfl rfl rfl (fill_one rfl (seE_length sea0_ok)) rfl (fun b5 => ?_)))
  all_goals (first | refine JL.gskip rfl rfl rfl rfl rfl rfl ?_ | refine JL.gskipU rfl rfl rfl rfl rfl ?_ | (refine JL.gloud rfl rfl rfl (l_callF e23 rfl rfl (accidents_spec E none 0 0 [] (some ⟨b5, 0, none⟩) 1 1 [sea0] _ rfl (by simp) ⟨Nat.le_refl _, by unfold maxLen; omega, .inr ⟨rfl, rfl⟩⟩ (by omega) rfl (by omega) (by intro x hx; simp at hx; subst hx; exact sea0_ok) (InL.ofRow Pick.head (by unfold maxLen; omega))) ?_); rintro _ _ ⟨a4, c4, rfl, rfl⟩))
  all_goals (first | refine JL.gskip rfl rfl rfl rfl rfl rfl ?_ | refine JL.gskipU rfl rfl rfl rfl rfl ?_ | refine JL.gstep rfl rfl rfl (y_len_slice hT rfl rfl rfl) rfl rfl ?_)
  all_goals (first | refine JL.gskip rfl rfl rfl rfl rfl rfl ?_ | refine JL.gskipU rfl rfl rfl rfl rfl ?_ | refine JL.gstep rfl rfl rfl (y_eql rfl rfl) rfl rfl ?_)
  all_goals (refine JL.step (y_pick rfl rfl rfl) rfl rfl rfl ?_)
  all_goals (refine JL.step (y_assign rfl) rfl rfl rfl ?_)
  all_goals refine JL.nil ?_
  all_goals refine JE.then_normal ?_
  all_goals
    refine J.ret ?_
    refine JE.ret1 (.inl rfl) rfl rfl (by (first | exact RV.tmp rfl | exact RV.cell1 hT rfl rfl rfl (by (exact Rd1.row (by (repeat (first | exact Pick.head | apply Pick.tail | apply Pick.app))) (by rfl))) | exact RV.cellN hT rfl rfl rfl (by (first | exact RdN.rowAll (by (repeat (first | exact Pick.head | apply Pick.tail | apply Pick.app))) | exact RdN.own (by (repeat (first | exact Pick.head | apply Pick.tail | apply Pick.app))))) (by (first | rfl | assumption | (simp; done) | omega)))) ?_
    exact ⟨rfl, fun w h => h.sup (by (repeat (first | exact Sup.refl | apply Sup.cons (by (repeat (first | exact Pick.head | apply Pick.tail | apply Pick.app))) | apply Sup.app | apply Sup.skip | apply Sup.skips)))⟩
end
end
section
open Go Go.SL
section
/-- Ten into a number, towards nought. -/
theorem td10 (m : Int) : ∃ q r : Nat, m.natAbs = 10 * q + r ∧ r < 10 ∧ (m.tdiv 10 = if m < 0 then -(q : Int) else q) ∧ (m.tmod 10 = if m < 0 then -(r : Int) else r) := by
  cases m with
  | ofNat n =>
    refine ⟨n / 10, n % 10, by simp; omega, by omega, ?_, ?_⟩
    · rw [if_neg (by simp)]; rfl
    · rw [if_neg (by simp)]; rfl
  | negSucc n =>
    refine ⟨(n + 1) / 10, (n + 1) % 10, by simp; omega, by omega, ?_, ?_⟩
    · rw [if_pos (Int.negSucc_lt_zero n)]; rfl
    · rw [if_pos (Int.negSucc_lt_zero n)]; rfl
theorem dig_nat (u : Nat) : (u < 10 ∧ dig u = [(48 + u : Int)]) ∨ (¬ u < 10 ∧ dig u = dig (u / 10) ++ [(48 + u % 10 : Int)]) := by
  by_cases h : u < 10
  · exact .inl ⟨h, dig_small h⟩
  · exact .inr ⟨h, dig_big h⟩
/-- The digits that are still to come. -/
def digR (m : Int) : List Int := if m = 0 then [] else dig m.natAbs
theorem digR_step {m : Int} {q r : Nat} {u : Nat} {xs : List Int} (hm : m.natAbs = 10 * q + r) (hr : r < 10) (hd : m.tdiv 10 = if m < 0 then -(q : Int) else q) (h : dig u = dig m.natAbs ++ xs) :
    dig u = digR (m.tdiv 10) ++ ((48 + (r : Int)) :: xs) := by
  have hq : digR (m.tdiv 10) = if q = 0 then [] else dig q := by
    unfold digR
    have e : m.tdiv 10 = 0 ↔ q = 0 := by rw [hd]; split <;> omega
    by_cases h0 : q = 0
    · rw [if_pos (e.2 h0), if_pos h0]
    · rw [if_neg (fun z => h0 (e.1 z)), if_neg h0]
      congr 1
      rw [hd]; split <;> omega
  rw [hq, h]
  rcases dig_nat m.natAbs with ⟨h1, h2⟩ | ⟨h1, h2⟩
  · rw [if_pos (by omega), h2, show m.natAbs = r by omega]; rfl
  · rw [if_neg (by omega), h2, show m.natAbs / 10 = q by omega, show ((m.natAbs : Int) % 10) = r by omega]
    simp
theorem strOf_none (xs : List Int) : strOf xs = ⟨#[]⟩ ↔ xs = [] := by
  constructor
  · intro h
    have := strOf_size xs
    rw [h] at this
    exact List.eq_nil_of_length_eq_zero this.symm
  · rintro rfl; rfl
end
section
attribute [local irreducible] J JL JE JM LS Y Fc RV Code.wp wpList Code.wpIn wpListIn
attribute [local irreducible] Yc strOf
variable (E : World)
theorem rnumber_spec (i : Int) (hi : R64 i) (l : List HProp) :
    Fc prog E 35 [.int .i64 i].toArray l (fun v l' => v = .string (strOf (numT i)) ∧ l' = l) := by
  refine Fc.eqs ?_
  have hi2 : -9223372036854775808 ≤ i ∧ i ≤ 9223372036854775807 := hi
  have hu20 := (dig_size (u := i.natAbs) (by omega)).2
  refine Fc.of_body (c := ?codeC) Tryd.func35 ?hb Tryd.ntmps35 ?hl ?_
  case hb => exact rfl
  case hl => exact rfl
  refine J.seq ?_
  refine J.region ?_
  refine JL.step (y_assign rfl) rfl rfl rfl ?_
  refine JL.nil ?_
  refine JE.then_normal ?_
  refine J.seq ?_
  refine J.region ?_
  refine JL.step (y_assign rfl) rfl rfl rfl ?_
  refine JL.nil ?_
  refine JE.then_normal ?_
  refine J.seq ?_
  refine J.seq ?_
  refine J.region ?_
  refine JL.step (y_move rfl) rfl rfl rfl (JL.step (y_assign rfl) rfl rfl rfl ?_)
  refine JL.nil ?_
  refine JE.then_normal ?_
  refine J.block ?_
  refine J.loop (α := Int × List Int) (fun s => (-9223372036854775808 ≤ s.1 ∧ s.1 ≤ 9223372036854775807) ∧ ((s.2 = [] ∧ s.1 = i) ∨ (s.2 ≠ [] ∧ dig i.natAbs = digR s.1 ++ s.2))) (fun s => [(0, .int .i64 i), (3, .string (strOf s.2)), (4, .int .i64 s.1)]) (fun _ => l) (fun s => s.1.natAbs + (if s.2 = [] then 1 else 0)) (i, []) ⟨hi2, .inl ⟨rfl, rfl⟩⟩ ⟨rfl, by unfold strOf; rfl, rfl, trivial⟩ (fun w h => h) ?_
  rintro ⟨m, xs⟩ ⟨hm64, hinv⟩
  dsimp only at hm64 hinv ⊢
  obtain ⟨q, r, hqr, hr, hdq, hdr⟩ := td10 m
  obtain ⟨b, hb⟩ : ∃ b, b = decide (xs = []) := ⟨_, rfl⟩
  have hxl : xs.length ≤ 20 := by
    rcases hinv with ⟨h1, _⟩ | ⟨_, h1⟩
    · rw [h1]; simp
    · have := congrArg List.length h1
      rw [List.length_append] at this
      omega
  refine J.seqK (α := Unit) (fun _ => dig i.natAbs = dig m.natAbs ++ xs ∧ (¬ m = 0 ∨ xs = [])) (fun _ => [(0, .int .i64 i), (3, .string (strOf xs)), (4, .int .i64 m)]) (fun _ => l) ?hj5 (fun hk5 => ?hf5)
  case hf5 =>
    refine J.seq ?_
    refine J.region ?_
    refine JL.step (y_move rfl) rfl rfl rfl (JL.step (y_neq rfl rfl) rfl rfl rfl (JL.step (y_move rfl) rfl rfl rfl ?_))
    all_goals (first | (refine JL.gsplit_dec rfl rfl rfl (fun h => ?_) (fun h => ?_) <;> try (first | (exfalso; omega) | exact absurd rfl h)) | (refine JL.gsplit rfl rfl rfl (fun h => ?_) (fun h => ?_) <;> try (first | cases h | (exfalso; simp at h; done))) | skip)
    all_goals (first | refine JL.gskip rfl rfl rfl rfl rfl rfl ?_ | refine JL.gskipU rfl rfl rfl rfl rfl ?_ | refine JL.gstep rfl rfl rfl (y_move rfl) rfl rfl ?_)
    all_goals (first | refine JL.gskip rfl rfl rfl rfl rfl rfl ?_ | refine JL.gskipU rfl rfl rfl rfl rfl ?_ | refine JL.gstep rfl rfl rfl (y_str_eqB (b := b) rfl rfl (by rw [hb]; exact decide_eq_decide.2 (strOf_none xs))) rfl rfl ?_)
    all_goals (refine JL.step (y_pick rfl rfl rfl) rfl rfl rfl ?_)
    all_goals refine JL.nil ?_
    all_goals refine JE.then_normal ?_
    all_goals
      first | apply J.cond_dec rfl | apply J.cond rfl
      case' ht =>
        intro h
        try (first | (exfalso; omega) | (cases h; done) | (exfalso; simp at h; done) | subst h)
        all_goals
          refine J.skip ?_
      case' hf =>
        intro h
        try (first | (exfalso; omega) | (cases h; done) | (exfalso; simp at h; done) | subst h)
        all_goals
          refine J.exit ?_
          refine JE.then_exit ?_
          refine JE.then_exit ?_
          refine JE.block_exit ?_
          refine JE.then_normal ?_
          refine J.seq ?_
          refine J.seq ?_
          refine J.region ?_
          refine JL.step (y_move rfl) rfl rfl rfl (JL.step (y_lss rfl rfl) rfl rfl rfl ?_)
          refine JL.nil ?_
          refine JE.then_normal ?_
          first | apply J.cond_dec rfl | apply J.cond rfl
          case' ht =>
            intro h
            try (first | (exfalso; omega) | (cases h; done) | (exfalso; simp at h; done) | subst h)
            all_goals
              refine J.seq ?_
              refine J.region ?_
              refine JL.step (y_move rfl) rfl rfl rfl ?_
              refine JL.step (y_addS (xs := [45]) (zs := 45 :: xs) (by unfold strOf; rfl) rfl rfl (by rw [List.length_singleton]; omega)) rfl rfl rfl ?_
              refine JL.step (y_assign rfl) rfl rfl rfl ?_
              refine JL.nil ?_
              refine JE.then_normal ?_
              refine J.ret ?_
              refine JE.then_ret ?_
              refine JE.ret1 (.inl rfl) rfl rfl (by (first | exact RV.tmp rfl | exact RV.cell1 hT rfl rfl rfl (by (exact Rd1.row (by (repeat (first | exact Pick.head | apply Pick.tail | apply Pick.app))) (by rfl))) | exact RV.cellN hT rfl rfl rfl (by (first | exact RdN.rowAll (by (repeat (first | exact Pick.head | apply Pick.tail | apply Pick.app))) | exact RdN.own (by (repeat (first | exact Pick.head | apply Pick.tail | apply Pick.app))))) (by (first | rfl | assumption | (simp; done) | omega)))) ?_
              have hm0 : m = 0 := by first | assumption | omega
              subst hm0
              rcases hinv with ⟨h1, h2⟩ | ⟨h1, h2⟩
              · exact absurd h1 (of_decide_eq_false hb.symm)
              · rw [show digR 0 = [] from rfl, List.nil_append] at h2
                refine ⟨?_, fun w h => h⟩
                unfold numT
                first | rw [if_pos (by assumption), h2] | rw [if_neg (by assumption), show i.toNat = i.natAbs by omega, h2]
          case' hf =>
            intro h
            try (first | (exfalso; omega) | (cases h; done) | (exfalso; simp at h; done) | subst h)
            all_goals
              refine J.skip ?_
          all_goals refine JE.then_normal ?_
          all_goals
            refine J.seq ?_
            refine J.region ?_
            refine JL.step (y_move rfl) rfl rfl rfl (JL.step (y_assign rfl) rfl rfl rfl ?_)
            refine JL.nil ?_
            refine JE.then_normal ?_
            refine J.ret ?_
            refine JE.ret1 (.inl rfl) rfl rfl (by (first | exact RV.tmp rfl | exact RV.cell1 hT rfl rfl rfl (by (exact Rd1.row (by (repeat (first | exact Pick.head | apply Pick.tail | apply Pick.app))) (by rfl))) | exact RV.cellN hT rfl rfl rfl (by (first | exact RdN.rowAll (by (repeat (first | exact Pick.head | apply Pick.tail | apply Pick.app))) | exact RdN.own (by (repeat (first | exact Pick.head | apply Pick.tail | apply Pick.app))))) (by (first | rfl | assumption | (simp; done) | omega)))) ?_
            have hm0 : m = 0 := by first | assumption | omega
            subst hm0
            rcases hinv with ⟨h1, h2⟩ | ⟨h1, h2⟩
            · exact absurd h1 (of_decide_eq_false hb.symm)
            · rw [show digR 0 = [] from rfl, List.nil_append] at h2
              refine ⟨?_, fun w h => h⟩
              unfold numT
              first | rw [if_pos (by assumption), h2] | rw [if_neg (by assumption), show i.toNat = i.natAbs by omega, h2]
    all_goals refine JE.then_normal ?_
    all_goals
      exact J.closeK hk5 () ⟨by
        rcases hinv with ⟨h1, h2⟩ | ⟨h1, h2⟩
        · rw [h1, h2, List.append_nil]
        · rw [h2]; unfold digR; rw [if_neg (by first | assumption | exact absurd (of_decide_eq_true hb.symm) h1)], by first | exact .inl (by assumption) | exact .inr (of_decide_eq_true hb.symm)⟩ ⟨rfl, rfl, rfl, trivial⟩ (fun w h => h)
  rintro _ ⟨hgo, hdec⟩
  try dsimp only
  refine J.seq ?_
  refine J.block ?_
  refine J.seq ?_
  refine J.region ?_
  refine JL.step (y_move rfl) rfl rfl rfl ?_
  refine JL.step (y_rem rfl rfl (by (first | omega | exact Nat.le_of_ble_eq_true rfl | decide | (simp; omega))) (by rfl)) rfl rfl rfl ?_
  refine JL.step (y_assign rfl) rfl rfl rfl ?_
  refine JL.nil ?_
  refine JE.then_normal ?_
  refine J.seqK (α := Int) (fun d => d = (r : Int)) (fun d => [(0, .int .i64 i), (3, .string (strOf xs)), (4, .int .i64 m), (5, .int .i64 d)]) (fun _ => l) ?hj8 (fun hk8 => ?hf8)
  case hf8 =>
    refine J.seq ?_
    refine J.region ?_
    refine JL.step (y_move rfl) rfl rfl rfl (JL.step (y_lss rfl rfl) rfl rfl rfl ?_)
    refine JL.nil ?_
    refine JE.then_normal ?_
    first | apply J.cond_dec rfl | apply J.cond rfl
    case' ht =>
      intro h
      try (first | (exfalso; omega) | (cases h; done) | (exfalso; simp at h; done) | subst h)
      all_goals
        refine J.region ?_
        refine JL.step (y_move rfl) rfl rfl rfl ?_
        refine JL.step (y_neg (m := (r : Int)) rfl (by rw [hdr]; split <;> (rw [IntKind.wrap_i64]; omega))) rfl rfl rfl ?_
        refine JL.step (y_assign rfl) rfl rfl rfl ?_
        refine JL.nil ?_
    case' hf =>
      intro h
      try (first | (exfalso; omega) | (cases h; done) | (exfalso; simp at h; done) | subst h)
      all_goals
        refine J.skip ?_
    all_goals refine JE.then_normal ?_
    all_goals
      exact J.closeK hk8 _ (by first | rfl | (rw [hdr]; split <;> omega)) ⟨rfl, rfl, rfl, rfl, trivial⟩ (fun w h => h)
  rintro d rfl
  try dsimp only
  refine J.region ?_
  refine JL.step (y_move rfl) rfl rfl rfl ?_
  refine JL.step (y_add rfl rfl (by (first | exact wrap_i64 (by omega) (by omega) | rfl))) rfl rfl rfl ?_
  refine JL.step (y_conv (m := 48 + (r : Int)) hT rfl rfl rfl rfl (by rw [IntKind.wrap_i32]; omega)) rfl rfl rfl ?_
  refine JL.step (y_convRune hT rfl rfl rfl rfl (by (first | omega | exact Nat.le_of_ble_eq_true rfl | decide | (simp; omega))) (by (first | omega | exact Nat.le_of_ble_eq_true rfl | decide | (simp; omega)))) rfl rfl rfl ?_
  refine JL.step (y_move rfl) rfl rfl rfl ?_
  refine JL.step (y_addS (zs := (48 + (r : Int)) :: xs) rfl rfl rfl (by rw [List.length_singleton]; omega)) rfl rfl rfl ?_
  refine JL.step (y_assign rfl) rfl rfl rfl ?_
  refine JL.nil ?_
  all_goals refine JE.block_normal ?_
  all_goals refine JE.then_normal ?_
  all_goals
    refine J.region ?_
    refine JL.step (y_move rfl) rfl rfl rfl ?_
    refine JL.step (y_quo (m := m.tdiv 10) rfl rfl (by decide) (wrap_i64 (by rw [hdq]; split <;> omega) (by rw [hdq]; split <;> omega))) rfl rfl rfl ?_
    refine JL.step (y_assign rfl) rfl rfl rfl ?_
    refine JL.nil ?_
  all_goals
    exact JE.round (s := (m, xs)) (m.tdiv 10, (48 + (r : Int)) :: xs) ⟨⟨by dsimp only; rw [hdq]; split <;> omega, by dsimp only; rw [hdq]; split <;> omega⟩, .inr ⟨by simp, digR_step hqr hr hdq hgo⟩⟩ ⟨rfl, rfl, rfl, trivial⟩ (fun w h => h) (by
      dsimp only
      rw [if_neg (by simp)]
      have e : (m.tdiv 10).natAbs = q := by rw [hdq]; split <;> omega
      rw [e]
      split
      · omega
      · rcases hdec with z | z
        · omega
        · contradiction)
theorem rshape_spec (p : Option Addr) (n c : Nat) (ws : List WireT) (l : List HProp) (hn : ws.length = n) (hn8 : n ≤ 1000) (hw : ∀ w ∈ ws, WiOk w) (hin : InL l p n c (ws.flatMap wiE)) :
    Fc prog E 14 [.slice p n c].toArray l (fun v l' => v = .string (strOf (shapeB ws)) ∧ l' = l) := by
  refine Fc.eqs ?_
  refine Fc.of_body (c := ?codeC) Tryd.func14 ?hb Tryd.ntmps14 ?hl ?_
  case hb => exact rfl
  case hl => exact rfl
  refine J.seq ?_
  refine J.region ?_
  refine JL.step (y_assign rfl) rfl rfl rfl ?_
  refine JL.nil ?_
  refine JE.then_normal ?_
  refine J.seq ?_
  refine J.region ?_
  refine JL.step (y_assign rfl) rfl rfl rfl ?_
  refine JL.nil ?_
  refine JE.then_normal ?_
  refine J.seq ?_
  refine J.seq ?_
  refine J.region ?_
  refine JL.step (y_move rfl) rfl rfl rfl (JL.step (y_len_slice hT rfl rfl rfl) rfl rfl rfl (JL.step (y_move rfl) rfl rfl rfl ?_))
  refine JL.nil ?_
  refine JE.then_normal ?_
  refine J.block ?_
  refine J.loop (α := Nat) (fun i => i ≤ n) (fun i => [(3, .string (strOf (shapeB (ws.take i)))), (6, .slice p n c), (7, .int .i64 n), (8, .int .i64 i)]) (fun _ => l) (fun i => n - i) 0 (Nat.zero_le _) ⟨by unfold strOf; rfl, rfl, rfl, rfl, trivial⟩ (fun w h => h) ?_
  intro i hi
  try dsimp only
  refine J.seq ?_
  refine J.region ?_
  refine JL.step (y_lss rfl rfl) rfl rfl rfl ?_
  refine JL.nil ?_
  refine JE.then_normal ?_
  refine J.seq ?_
  first | apply J.cond_dec rfl | apply J.cond rfl
  case' ht =>
    intro h
    try (first | (exfalso; omega) | (cases h; done) | (exfalso; simp at h; done) | subst h)
    all_goals
      refine J.skip ?_
  case' hf =>
    intro h
    try (first | (exfalso; omega) | (cases h; done) | (exfalso; simp at h; done) | subst h)
    all_goals
      refine J.exit ?_
      refine JE.then_exit ?_
      refine JE.then_exit ?_
      refine JE.block_exit ?_
      refine JE.then_normal ?_
      refine J.seq ?_
      refine J.region ?_
      refine JL.step (y_move rfl) rfl rfl rfl (JL.step (y_assign rfl) rfl rfl rfl ?_)
      refine JL.nil ?_
      refine JE.then_normal ?_
      refine J.ret ?_
      refine JE.ret1 (.inl rfl) rfl rfl (by (first | exact RV.tmp rfl | exact RV.cell1 hT rfl rfl rfl (by (exact Rd1.row (by (repeat (first | exact Pick.head | apply Pick.tail | apply Pick.app))) (by rfl))) | exact RV.cellN hT rfl rfl rfl (by (first | exact RdN.rowAll (by (repeat (first | exact Pick.head | apply Pick.tail | apply Pick.app))) | exact RdN.own (by (repeat (first | exact Pick.head | apply Pick.tail | apply Pick.app))))) (by (first | rfl | assumption | (simp; done) | omega)))) ?_
      obtain rfl : i = n := by omega
      rw [List.take_of_length_le (by omega)]
      exact ⟨rfl, fun w h => h.sup (by (repeat (first | exact Sup.refl | apply Sup.cons (by (repeat (first | exact Pick.head | apply Pick.tail | apply Pick.app))) | apply Sup.app | apply Sup.skip | apply Sup.skips)))⟩
  all_goals refine JE.then_normal ?_
  all_goals
    refine J.seq ?_
    refine J.block ?_
    refine J.seq ?_
    have hlt : i < n := by omega
    obtain ⟨w, hh⟩ : ∃ w, ws[i]? = some w := ⟨ws[i]'(by omega), List.getElem?_eq_getElem _⟩
    have hwk := hw w (List.mem_of_getElem? hh)
    have hsz : (shapeB (ws.take i)).length ≤ 110000 := by
      have h1 := shape_size (ws := ws.take i) fun x hx => hw x (List.mem_of_mem_take hx)
      rw [List.length_take] at h1
      omega
    have hst : shapeB (ws.take (i + 1)) = shapeB (ws.take i) ++ lineB w := by
      unfold shapeB
      rw [List.take_add_one, hh, Option.toList_some, List.flatMap_append]
      simp
    obtain ⟨h1, h2, h3, h4, h5⟩ := hwk
    have s1 := numT_size h1
    have s2 := numT_size h2
    have s3 := numT_size h3
    have s4 := numT_size h4
    have s5 := numT_size h5
    obtain ⟨g, o, rfl, hr⟩ := hin.addr (by omega)
    refine J.region ?_
    refine JL.step (y_indexAddr_slice hT rfl rfl rfl rfl rfl (by (first | omega | exact Nat.le_of_ble_eq_true rfl | decide | (simp; omega))) (by (first | omega | exact Nat.le_of_ble_eq_true rfl | decide | (simp; omega)))) rfl rfl rfl ?_
    refine JL.step (y_loadN hT rfl rfl rfl (RdN.elem (hr []) (fun x _ => wiE_length x) hh) rfl) rfl rfl rfl ?_
    refine JL.loud rfl (l_alloc hT rfl rfl (by (first | rfl | simp)) rfl (fun b1 => ?_))
    refine JL.loud rfl (l_storeAll hT rfl rfl rfl (by (first | rfl | assumption | (simp; done) | omega)) (by (first | assumption | exact ones_of rfl | exact encW_one _ | exact encB_one _ | (intro u hu; simp at hu; rcases hu with rfl | rfl <;> rfl) | (intro u hu; simp at hu; subst hu; rfl) | simp)) (by (repeat (first | exact Pick.head | apply Pick.tail | apply Pick.app))) (by (first | rfl | assumption | (simp; done) | omega)) ?_)
    refine JL.nil ?_
    refine JE.then_normal ?_
    refine J.draw _ _ [(0, .q), (1, .q), (2, .q), (3, .q), (4, .q), (5, .q), (6, .q), (7, .q), (8, .q), (9, .q), (10, .q), (11, .q), (12, .q), (13, .q), (14, .q), (15, .q), (16, .q), (17, .q), (18, .q), (19, .q), (20, .q), (21, .q), (22, .q), (23, .q), (24, .q), (25, .q), (26, .q)] mixed (by kernel_rfl) (Split.nil) ?_
    refine JM.quiet rfl rfl rfl rfl (fun m => y_move rfl) ?_
    refine JM.quiet rfl rfl rfl rfl (fun m => y_fieldAddr hT rfl rfl rfl rfl rfl rfl) ?_
    refine JM.quiet rfl rfl rfl rfl (fun m => y_load1 hT rfl rfl rfl (by (exact Rd1.row (Pick.app m (by (repeat (first | exact Pick.head | apply Pick.tail | apply Pick.app)))) (by rfl)))) ?_
    refine JM.quiet rfl rfl rfl rfl (fun m => y_callF e35 rfl (rnumber_spec E w.1 h1 _)) ?_
    refine JM.quiet rfl rfl rfl rfl (fun m => y_addS (ys := [32]) rfl (by unfold strOf; rfl) rfl (by simp only [List.length_append, List.length_cons, List.length_nil]; omega)) ?_
    refine JM.quiet rfl rfl rfl rfl (fun m => y_fieldAddr hT rfl rfl rfl rfl rfl rfl) ?_
    refine JM.quiet rfl rfl rfl rfl (fun m => y_load1 hT rfl rfl rfl (by (exact Rd1.row (Pick.app m (by (repeat (first | exact Pick.head | apply Pick.tail | apply Pick.app)))) (by rfl)))) ?_
    refine JM.quiet rfl rfl rfl rfl (fun m => y_callF e35 rfl (rnumber_spec E w.2.1 h2 _)) ?_
    refine JM.quiet rfl rfl rfl rfl (fun m => y_addS rfl rfl rfl (by simp only [List.length_append, List.length_cons, List.length_nil]; omega)) ?_
    refine JM.quiet rfl rfl rfl rfl (fun m => y_addS (ys := [32]) rfl (by unfold strOf; rfl) rfl (by simp only [List.length_append, List.length_cons, List.length_nil]; omega)) ?_
    refine JM.quiet rfl rfl rfl rfl (fun m => y_fieldAddr hT rfl rfl rfl rfl rfl rfl) ?_
    refine JM.quiet rfl rfl rfl rfl (fun m => y_load1 hT rfl rfl rfl (by (exact Rd1.row (Pick.app m (by (repeat (first | exact Pick.head | apply Pick.tail | apply Pick.app)))) (by rfl)))) ?_
    refine JM.quiet rfl rfl rfl rfl (fun m => y_callF e35 rfl (rnumber_spec E w.2.2.1 h3 _)) ?_
    refine JM.quiet rfl rfl rfl rfl (fun m => y_addS rfl rfl rfl (by simp only [List.length_append, List.length_cons, List.length_nil]; omega)) ?_
    refine JM.quiet rfl rfl rfl rfl (fun m => y_addS (ys := [32]) rfl (by unfold strOf; rfl) rfl (by simp only [List.length_append, List.length_cons, List.length_nil]; omega)) ?_
    refine JM.quiet rfl rfl rfl rfl (fun m => y_fieldAddr hT rfl rfl rfl rfl rfl rfl) ?_
    refine JM.quiet rfl rfl rfl rfl (fun m => y_load1 hT rfl rfl rfl (by (exact Rd1.row (Pick.app m (by (repeat (first | exact Pick.head | apply Pick.tail | apply Pick.app)))) (by rfl)))) ?_
    refine JM.quiet rfl rfl rfl rfl (fun m => y_callF e35 rfl (rnumber_spec E w.2.2.2.1 h4 _)) ?_
    refine JM.quiet rfl rfl rfl rfl (fun m => y_addS rfl rfl rfl (by simp only [List.length_append, List.length_cons, List.length_nil]; omega)) ?_
    refine JM.quiet rfl rfl rfl rfl (fun m => y_addS (ys := [32]) rfl (by unfold strOf; rfl) rfl (by simp only [List.length_append, List.length_cons, List.length_nil]; omega)) ?_
    refine JM.quiet rfl rfl rfl rfl (fun m => y_fieldAddr hT rfl rfl rfl rfl rfl rfl) ?_
    refine JM.quiet rfl rfl rfl rfl (fun m => y_load1 hT rfl rfl rfl (by (exact Rd1.row (Pick.app m (by (repeat (first | exact Pick.head | apply Pick.tail | apply Pick.app)))) (by rfl)))) ?_
    refine JM.quiet rfl rfl rfl rfl (fun m => y_callF e35 rfl (rnumber_spec E w.2.2.2.2 h5 _)) ?_
    refine JM.quiet rfl rfl rfl rfl (fun m => y_addS rfl rfl rfl (by simp only [List.length_append, List.length_cons, List.length_nil]; omega)) ?_
    refine JM.quiet rfl rfl rfl rfl (fun m => y_addS (ys := [10]) rfl (by unfold strOf; rfl) rfl (by simp only [List.length_append, List.length_cons, List.length_nil]; omega)) ?_
    refine JM.quiet rfl rfl rfl rfl (fun m => y_addS rfl rfl rfl (by simp only [List.length_append, List.length_cons, List.length_nil]; omega)) ?_
    refine JM.quiet rfl rfl rfl rfl (fun m => y_assign rfl) ?_
    refine JM.nil ?_
    refine JE.block_normal ?_
    refine JE.then_normal ?_
    refine J.region ?_
    refine JL.step (y_add rfl rfl (by (first | exact wrap_i64 (by omega) (by omega) | rfl))) rfl rfl rfl ?_
    refine JL.step (y_move rfl) rfl rfl rfl ?_
    refine JL.nil ?_
  all_goals
    exact JE.round (s := i) (i + 1) (by omega) ⟨by rw [hst]; exact congrArg (fun z => some (Value.string (strOf z))) (by simp [lineB]), rfl, rfl, rfl, trivial⟩ (fun w h => h.sup (by (repeat (first | exact Sup.refl | apply Sup.cons (by (repeat (first | exact Pick.head | apply Pick.tail | apply Pick.app))) | apply Sup.app | apply Sup.skip | apply Sup.skips)))) (by omega)
end
end
section
open Go Go.SL
section
/-- One way ahead of another. -/
def kl (a b : FlowT) : Prop := a.1 < b.1 ∨ a.1 = b.1 ∧ a.2.1 < b.2.1
instance (a b : FlowT) : Decidable (kl a b) := by unfold kl; infer_instance
/-- A wire as a flow. -/
def wfl (w : WireT) : FlowT := (w.2.1, w.2.2.1, wr (0 + w.2.2.2.1), wr (0 + w.2.2.2.2))
/-- A wire is put in place. -/
def plW (w : WireT) : List FlowT → List FlowT
  | [] => [wfl w]
  | f :: r => if kl f (wfl w) then f :: plW w r else if f.1 = w.2.1 ∧ f.2.1 = w.2.2.1 then (f.1, f.2.1, wr (f.2.2.1 + w.2.2.2.1), wr (f.2.2.2 + w.2.2.2.2)) :: r else wfl w :: f :: r
def refF (ws : List WireT) : List FlowT := ws.foldl (fun l w => plW w l) []
theorem refF_take {ws : List WireT} {i : Nat} {w : WireT} (h : ws[i]? = some w) : refF (ws.take (i + 1)) = plW w (refF (ws.take i)) := by
  unfold refF
  rw [List.take_add_one, h, Option.toList_some, List.foldl_append]; rfl
theorem plW_length (w : WireT) (l : List FlowT) : (plW w l).length ≤ l.length + 1 := by
  induction l with
  | nil => simp [plW]
  | cons f r ih => unfold plW; split <;> (try split) <;> simp only [List.length_cons] <;> omega
theorem refF_length (ws : List WireT) : (refF ws).length ≤ ws.length := by
  have h : ∀ (ws : List WireT) (l : List FlowT), (ws.foldl (fun l w => plW w l) l).length ≤ l.length + ws.length := by
    intro ws
    induction ws with
    | nil => intro l; simp
    | cons w r ih =>
      intro l
      have h1 := ih (plW w l)
      have h2 := plW_length w l
      rw [List.foldl_cons, List.length_cons]; omega
  have := h ws []
  unfold refF
  simpa using this
theorem plW_keys (w : WireT) : ∀ (l : List FlowT) (y : FlowT), y ∈ plW w l → (y.1 = w.2.1 ∧ y.2.1 = w.2.2.1) ∨ ∃ z ∈ l, y.1 = z.1 ∧ y.2.1 = z.2.1
  | [], y, h => by simp [plW] at h; subst h; exact .inl ⟨rfl, rfl⟩
  | f :: r, y, h => by
    unfold plW at h
    split at h
    · rcases List.mem_cons.1 h with rfl | h
      · exact .inr ⟨y, by simp, rfl, rfl⟩
      · rcases plW_keys w r y h with q | ⟨z, hz, q⟩
        · exact .inl q
        · exact .inr ⟨z, List.mem_cons_of_mem _ hz, q⟩
    · split at h
      · rcases List.mem_cons.1 h with rfl | h
        · exact .inr ⟨f, by simp, rfl, rfl⟩
        · exact .inr ⟨y, List.mem_cons_of_mem _ h, rfl, rfl⟩
      · rcases List.mem_cons.1 h with rfl | h
        · exact .inl ⟨rfl, rfl⟩
        · exact .inr ⟨y, h, rfl, rfl⟩
theorem plW_sorted (w : WireT) : ∀ {l : List FlowT}, l.Pairwise kl → (plW w l).Pairwise kl
  | [], _ => List.pairwise_singleton _ _
  | f :: r, h => by
    have h1 := List.pairwise_cons.1 h
    unfold plW
    split
    · rename_i hk
      refine List.pairwise_cons.2 ⟨fun y hy => ?_, plW_sorted w h1.2⟩
      rcases plW_keys w r y hy with q | ⟨z, hz, q1, q2⟩
      · simp only [kl, wfl] at hk ⊢; omega
      · have := h1.1 z hz
        simp only [kl] at this ⊢; omega
    · split
      · exact List.pairwise_cons.2 ⟨fun y hy => h1.1 y hy, h1.2⟩
      · rename_i hk he
        refine List.pairwise_cons.2 ⟨fun y hy => ?_, h⟩
        simp only [kl, wfl] at hk
        rcases List.mem_cons.1 hy with rfl | q
        · simp only [kl, wfl]; omega
        · have := h1.1 y q
          simp only [kl, wfl] at this ⊢; omega
theorem refF_sorted (ws : List WireT) : (refF ws).Pairwise kl := by
  have h : ∀ (ws : List WireT) (l : List FlowT), l.Pairwise kl → (ws.foldl (fun l w => plW w l) l).Pairwise kl := by
    intro ws
    induction ws with
    | nil => intro l h; exact h
    | cons w r ih => intro l h; exact ih _ (plW_sorted w h)
  exact h ws [] List.Pairwise.nil
def samek (a b : FlowT) : Prop := a.1 = b.1 ∧ a.2.1 = b.2.1
theorem fput_new (w : WireT) : ∀ (l : List FlowT), (∀ f ∈ l, ¬ (f.1 = w.2.1 ∧ f.2.1 = w.2.2.1)) → fput l w = l ++ [wfl w]
  | [], _ => rfl
  | f :: r, h => by
    have h1 := h f (by simp)
    rw [fput, if_neg (by intro q; simp only [Prod.mk.injEq] at q; exact h1 ⟨q.1.symm, q.2.symm⟩), fput_new w r fun x hx => h x (List.mem_cons_of_mem _ hx)]
    rfl
theorem plW_perm (w : WireT) : ∀ {l : List FlowT}, l.Pairwise kl → (plW w l).Perm (fput l w)
  | [], _ => List.Perm.refl _
  | f :: r, h => by
    have h1 := List.pairwise_cons.1 h
    unfold plW
    split
    · rename_i hk
      rw [fput, if_neg (by intro q; simp only [Prod.mk.injEq] at q; simp only [kl, wfl] at hk; omega)]
      exact (plW_perm w h1.2).cons _
    · split
      · rename_i hk he
        rw [fput, if_pos (by simp only [Prod.mk.injEq]; exact ⟨he.1.symm, he.2.symm⟩), he.1, he.2]
      · rename_i hk he
        rw [fput_new w (f :: r) fun x hx q => ?_]
        · exact (List.perm_append_singleton (wfl w) (f :: r)).symm
        · rcases List.mem_cons.1 hx with rfl | hx
          · exact he q
          · have := h1.1 x hx
            simp only [kl, wfl] at hk this; omega
theorem fput_perm (w : WireT) {l m : List FlowT} (hp : l.Perm m) : (l.Pairwise fun a b => ¬ samek a b) → (fput l w).Perm (fput m w) := by
  induction hp with
  | nil => intro _; exact List.Perm.refl _
  | cons x hp ih =>
    intro h
    have h1 := List.pairwise_cons.1 h
    unfold fput
    split
    · exact hp.cons _
    · exact (ih h1.2).cons _
  | swap x y r =>
    intro h
    have h1 := (List.pairwise_cons.1 h).1 x (by simp)
    simp only [fput]
    by_cases a : (w.2.1, w.2.2.1) = (x.1, x.2.1) <;> by_cases b : (w.2.1, w.2.2.1) = (y.1, y.2.1)
    · exfalso
      rw [Prod.mk.injEq] at a b
      exact h1 ⟨by omega, by omega⟩
    · rw [if_neg b, if_pos a, if_pos a]; exact List.Perm.swap ..
    · rw [if_pos b, if_neg a, if_pos b]; exact List.Perm.swap ..
    · rw [if_neg b, if_neg a, if_neg a, if_neg b]; exact List.Perm.swap ..
  | trans hp1 _ ih1 ih2 =>
    intro h
    refine (ih1 h).trans (ih2 ?_)
    exact (hp1.pairwise_iff fun {a b} q r => q ⟨r.1.symm, r.2.symm⟩).1 h
theorem refF_perm (ws : List WireT) : (refF ws).Perm (ws.foldl fput []) := by
  have h : ∀ (ws : List WireT) (l m : List FlowT), l.Pairwise kl → l.Perm m → (ws.foldl (fun l w => plW w l) l).Perm (ws.foldl fput m) := by
    intro ws
    induction ws with
    | nil => intro l m _ h; exact h
    | cons w r ih =>
      intro l m hs hp
      refine ih _ _ (plW_sorted w hs) ((plW_perm w hs).trans (fput_perm w hp (hs.imp fun {a b} q r => ?_)))
      simp only [kl] at q
      obtain ⟨r1, r2⟩ := r
      omega
  exact h ws [] [] List.Pairwise.nil (List.Perm.refl _)
theorem sortedF_one : ∀ {ys xs : List FlowT}, xs.Perm ys → (xs.Pairwise fun x y => ltF y x = false) → ys.Pairwise kl → xs = ys
  | [], xs, h, _, _ => h.eq_nil
  | y :: ys, xs, h, hx, hy => by
    cases xs with
    | nil => exact absurd h.symm.eq_nil (by simp)
    | cons x xs =>
      have hx1 := List.pairwise_cons.1 hx
      have hy1 := List.pairwise_cons.1 hy
      have e : x = y := by
        have a1 : x ∈ y :: ys := h.subset (by simp)
        have a2 : y ∈ x :: xs := h.symm.subset (by simp)
        rcases List.mem_cons.1 a1 with q | q
        · exact q
        · rcases List.mem_cons.1 a2 with q2 | q2
          · exact q2.symm
          · have l1 := hy1.1 x q
            have l2 := hx1.1 y q2
            simp only [ltF, decide_eq_false_iff_not, cmpF_lt] at l2
            exact absurd l1 l2
      subst e
      rw [sortedF_one (List.Perm.cons_inv h) hx1.2 hy1.2]
/-- The flows are the document's. -/
theorem flows_same {ws : List WireT} {vs : List FlowT} (h1 : vs.Perm (ws.foldl fput [])) (h2 : vs.Pairwise fun x y => ltF y x = false) : vs = refF ws :=
  sortedF_one (h1.trans (refF_perm ws).symm) h2 (refF_sorted ws)
/-- The reference's place of a wire. -/
theorem plW_at {w : WireT} : ∀ {l : List FlowT} {k : Nat}, k ≤ l.length → (∀ (j : Nat) (y : FlowT), j < k → l[j]? = some y → kl y (wfl w)) → (∀ y, l[k]? = some y → ¬ kl y (wfl w)) →
    plW w l = match l[k]? with
      | some f => if f.1 = w.2.1 ∧ f.2.1 = w.2.2.1 then l.set k (f.1, f.2.1, wr (f.2.2.1 + w.2.2.2.1), wr (f.2.2.2 + w.2.2.2.2)) else l.take k ++ wfl w :: l.drop k
      | none => l.take k ++ wfl w :: l.drop k
  | [], k, h, _, _ => by
    obtain rfl : k = 0 := by simpa using h
    rfl
  | f :: r, 0, _, _, h2 => by
    have h := h2 f rfl
    rw [plW, if_neg h]
    simp
  | f :: r, k + 1, h, h1, h2 => by
    have h0 := h1 0 f (by omega) rfl
    rw [plW, if_pos h0, plW_at (l := r) (k := k) (by simpa using h) (fun j y hj hy => h1 (j + 1) y (by omega) (by simpa using hy)) (fun y hy => h2 y (by simpa using hy))]
    rw [List.getElem?_cons_succ]
    cases r[k]? with
    | none => rfl
    | some g => simp only; split <;> rfl
/-- Sums of flows. -/
def sumI : List Int → Int
  | [] => 0
  | x :: r => x + sumI r
theorem sumI_app (a b : List Int) : sumI (a ++ b) = sumI a + sumI b := by
  induction a with
  | nil => simp [sumI]
  | cons x a ih => rw [List.cons_append, sumI, sumI, ih]; omega
theorem sumI_perm {a b : List Int} (h : a.Perm b) : sumI a = sumI b := by
  induction h with
  | nil => rfl
  | cons x _ ih => rw [sumI, sumI, ih]
  | swap x y r => simp only [sumI]; omega
  | trans _ _ i1 i2 => rw [i1, i2]
theorem wr_mod (x : Int) : ∃ q, wr x = x + 18446744073709551616 * q := by
  refine ⟨(wr x - x) / 18446744073709551616, ?_⟩
  unfold wr
  rw [IntKind.wrap_i64]
  omega
theorem fput_sums (l : List FlowT) (w : WireT) : (∃ q, sumI ((fput l w).map (·.2.2.1)) = sumI (l.map (·.2.2.1)) + w.2.2.2.1 + 18446744073709551616 * q) ∧ ∃ q, sumI ((fput l w).map (·.2.2.2)) = sumI (l.map (·.2.2.2)) + w.2.2.2.2 + 18446744073709551616 * q := by
  induction l with
  | nil =>
    obtain ⟨q1, h1⟩ := wr_mod (0 + w.2.2.2.1)
    obtain ⟨q2, h2⟩ := wr_mod (0 + w.2.2.2.2)
    exact ⟨⟨q1, by simp only [fput, List.map_cons, List.map_nil, sumI, h1]; omega⟩, ⟨q2, by simp only [fput, List.map_cons, List.map_nil, sumI, h2]; omega⟩⟩
  | cons f r ih =>
    obtain ⟨⟨q1, h1⟩, ⟨q2, h2⟩⟩ := ih
    unfold fput
    split
    · obtain ⟨q1, h1⟩ := wr_mod (f.2.2.1 + w.2.2.2.1)
      obtain ⟨q2, h2⟩ := wr_mod (f.2.2.2 + w.2.2.2.2)
      exact ⟨⟨q1, by simp only [List.map_cons, sumI, h1]; omega⟩, ⟨q2, by simp only [List.map_cons, sumI, h2]; omega⟩⟩
    · exact ⟨⟨q1, by simp only [List.map_cons, sumI, h1]; omega⟩, ⟨q2, by simp only [List.map_cons, sumI, h2]; omega⟩⟩
theorem flows_sums (ws : List WireT) : (∃ q, sumI ((refF ws).map (·.2.2.1)) = sumI (ws.map (·.2.2.2.1)) + 18446744073709551616 * q) ∧ ∃ q, sumI ((refF ws).map (·.2.2.2)) = sumI (ws.map (·.2.2.2.2)) + 18446744073709551616 * q := by
  rw [sumI_perm ((refF_perm ws).map (·.2.2.1)), sumI_perm ((refF_perm ws).map (·.2.2.2))]
  have h : ∀ (ws : List WireT) (l : List FlowT), (∃ q, sumI ((ws.foldl fput l).map (·.2.2.1)) = sumI (l.map (·.2.2.1)) + sumI (ws.map (·.2.2.2.1)) + 18446744073709551616 * q) ∧ ∃ q, sumI ((ws.foldl fput l).map (·.2.2.2)) = sumI (l.map (·.2.2.2)) + sumI (ws.map (·.2.2.2.2)) + 18446744073709551616 * q := by
    intro ws
    induction ws with
    | nil => intro l; exact ⟨⟨0, by simp [sumI]⟩, ⟨0, by simp [sumI]⟩⟩
    | cons w r ih =>
      intro l
      obtain ⟨⟨a, ha⟩, ⟨b, hb⟩⟩ := fput_sums l w
      obtain ⟨⟨c, hc⟩, ⟨d, hd⟩⟩ := ih (fput l w)
      refine ⟨⟨a + c, ?_⟩, ⟨b + d, ?_⟩⟩
      · rw [List.foldl_cons, hc, ha, List.map_cons, sumI]; omega
      · rw [List.foldl_cons, hd, hb, List.map_cons, sumI]; omega
  obtain ⟨⟨a, ha⟩, ⟨b, hb⟩⟩ := h ws []
  exact ⟨⟨a, by rw [ha]; simp [sumI]⟩, ⟨b, by rw [hb]; simp [sumI]⟩⟩
end
end
section
open Go Go.SL
section
theorem fls_len (fs : List FlowT) : (fs.flatMap flE).length = fs.length * 4 := seg_len fun x _ => hkE x
theorem fls_one (fs : List FlowT) : ∀ u ∈ fs.flatMap flE, u.oneCell' = true := by
  intro u hu
  obtain ⟨w, _, h⟩ := List.mem_flatMap.1 hu
  exact hoE w u h
theorem fl_set2 (z : Int) : ∀ {fs : List FlowT} {k : Nat} {f : FlowT}, fs[k]? = some f → (fs.flatMap flE).set (k * 4 + 2) (.int .i64 z) = (fs.set k (f.1, f.2.1, z, f.2.2.2)).flatMap flE
  | [], k, f, h => by simp at h
  | g :: r, 0, f, h => by
    obtain rfl : g = f := by simpa using h
    rfl
  | g :: r, k + 1, f, h => by
    have ih := fl_set2 z (fs := r) (k := k) (f := f) (by simpa using h)
    rw [List.set_cons_succ, List.flatMap_cons, List.flatMap_cons, ← ih, List.set_append_right _ _ (by rw [hkE]; omega), hkE]
    congr 2
    omega
theorem fl_set3 (z : Int) : ∀ {fs : List FlowT} {k : Nat} {f : FlowT}, fs[k]? = some f → (fs.flatMap flE).set (k * 4 + 3) (.int .i64 z) = (fs.set k (f.1, f.2.1, f.2.2.1, z)).flatMap flE
  | [], k, f, h => by simp at h
  | g :: r, 0, f, h => by
    obtain rfl : g = f := by simpa using h
    rfl
  | g :: r, k + 1, f, h => by
    have ih := fl_set3 z (fs := r) (k := k) (f := f) (by simpa using h)
    rw [List.set_cons_succ, List.flatMap_cons, List.flatMap_cons, ← ih, List.set_append_right _ _ (by rw [hkE]; omega), hkE]
    congr 2
    omega
end
section
attribute [local irreducible] J JL JE JM LS Y Fc RV Code.wp wpList Code.wpIn wpListIn
attribute [local irreducible] Yc
variable (E : World)
theorem rflows_spec (p : Option Addr) (n c : Nat) (ws : List WireT) (l : List HProp) (hn : ws.length = n) (hn8 : n ≤ 1000) (hin : InL l p n c (ws.flatMap wiE)) :
    Fc prog E 15 [.slice p n c].toArray l (fun v l' => ∃ a c', v = .slice a (refF ws).length c' ∧ l' = own 29 4 v (refF ws).length ((refF ws).flatMap flE) :: l) := by
  refine Fc.post ?_
  refine Fc.of_body (c := ?codeC) Tryd.func15 ?hb Tryd.ntmps15 ?hl ?_
  case hb => exact rfl
  case hl => exact rfl
  refine J.seq ?_
  refine J.region ?_
  refine JL.step (y_assign rfl) rfl rfl rfl ?_
  refine JL.nil ?_
  refine JE.then_normal ?_
  refine J.seq ?_
  refine J.region ?_
  refine JL.step (y_assign rfl) rfl rfl rfl ?_
  refine JL.nil ?_
  refine JE.then_normal ?_
  refine J.seq ?_
  refine J.seq ?_
  refine J.region ?_
  refine JL.step (y_move rfl) rfl rfl rfl (JL.step (y_len_slice hT rfl rfl rfl) rfl rfl rfl (JL.step (y_move rfl) rfl rfl rfl ?_))
  refine JL.nil ?_
  refine JE.then_normal ?_
  refine J.block ?_
  refine J.pre (l' := own 29 4 (.slice none 0 0) 0 [] :: l) (fun w s => Sat.own_nil s) ?_
  refine J.loop (α := Nat × Option Addr × Nat) (fun s => s.1 ≤ n) (fun s => [(3, .slice s.2.1 (refF (ws.take s.1)).length s.2.2), (7, .slice p n c), (8, .int .i64 n), (9, .int .i64 s.1)]) (fun s => own 29 4 (.slice s.2.1 (refF (ws.take s.1)).length s.2.2) (refF (ws.take s.1)).length ((refF (ws.take s.1)).flatMap flE) :: l) (fun s => n - s.1) (0, none, 0) (Nat.zero_le _) ⟨rfl, rfl, rfl, rfl, trivial⟩ (fun w h => h) ?_
  rintro ⟨i, a, c'⟩ hi
  have hpl := refF_length (ws.take i)
  rw [List.length_take] at hpl
  dsimp only at hi ⊢
  refine J.seq ?_
  refine J.region ?_
  refine JL.step (y_lss rfl rfl) rfl rfl rfl ?_
  refine JL.nil ?_
  refine JE.then_normal ?_
  refine J.seq ?_
  first | apply J.cond_dec rfl | apply J.cond rfl
  case' ht =>
    intro h
    try (first | (exfalso; omega) | (cases h; done) | (exfalso; simp at h; done) | subst h)
    all_goals
      refine J.skip ?_
  case' hf =>
    intro h
    try (first | (exfalso; omega) | (cases h; done) | (exfalso; simp at h; done) | subst h)
    all_goals
      refine J.exit ?_
      refine JE.then_exit ?_
      refine JE.then_exit ?_
      refine JE.block_exit ?_
      refine JE.then_normal ?_
      refine J.seq ?_
      refine J.region ?_
      refine JL.step (y_move rfl) rfl rfl rfl (JL.step (y_assign rfl) rfl rfl rfl ?_)
      refine JL.nil ?_
      refine JE.then_normal ?_
      refine J.ret ?_
      refine JE.ret1 (.inl rfl) rfl rfl (by (first | exact RV.tmp rfl | exact RV.cell1 hT rfl rfl rfl (by (exact Rd1.row (by (repeat (first | exact Pick.head | apply Pick.tail | apply Pick.app))) (by rfl))) | exact RV.cellN hT rfl rfl rfl (by (first | exact RdN.rowAll (by (repeat (first | exact Pick.head | apply Pick.tail | apply Pick.app))) | exact RdN.own (by (repeat (first | exact Pick.head | apply Pick.tail | apply Pick.app))))) (by (first | rfl | assumption | (simp; done) | omega)))) ?_
      obtain rfl : i = n := by omega
      rw [List.take_of_length_le (by omega)]
      exact ⟨_, fun w h => h, a, c', rfl, rfl⟩
  all_goals refine JE.then_normal ?_
  all_goals
    refine J.seq ?_
    refine J.block ?_
    refine J.seq ?_
    have hlt : i < n := by omega
    obtain ⟨w, hh⟩ : ∃ w, ws[i]? = some w := ⟨ws[i]'(by omega), List.getElem?_eq_getElem _⟩
    have hst := refF_take hh
    obtain ⟨ys, hys⟩ : ∃ ys, refF (ws.take i) = ys := ⟨_, rfl⟩
    rw [hys] at hst hpl ⊢
    obtain ⟨g, o, rfl, hr⟩ := hin.addr (by omega)
    refine J.region ?_
    refine JL.fact (fun w s => Sat.own_at (s.pick Pick.head)) fun oy => ?_
    have hoy : ∀ b, InL (row b 38 (wiE w) :: own 29 4 (.slice a ys.length c') ys.length (ys.flatMap flE) :: l) a ys.length c' (ys.flatMap flE) := fun b => oy.inl (Pick.tail Pick.head)
    refine JL.step (y_indexAddr_slice hT rfl rfl rfl rfl rfl (by (first | omega | exact Nat.le_of_ble_eq_true rfl | decide | (simp; omega))) (by (first | omega | exact Nat.le_of_ble_eq_true rfl | decide | (simp; omega)))) rfl rfl rfl ?_
    refine JL.step (y_loadN hT rfl rfl rfl (RdN.elem ((hr []).cons _) (fun x _ => wiE_length x) hh) rfl) rfl rfl rfl ?_
    refine JL.loud rfl (l_alloc hT rfl rfl (by (first | rfl | simp)) rfl (fun b1 => ?_))
    refine JL.loud rfl (l_storeAll hT rfl rfl rfl (by (first | rfl | assumption | (simp; done) | omega)) (by (first | assumption | exact ones_of rfl | exact encW_one _ | exact encB_one _ | (intro u hu; simp at hu; rcases hu with rfl | rfl <;> rfl) | (intro u hu; simp at hu; subst hu; rfl) | simp)) (by (repeat (first | exact Pick.head | apply Pick.tail | apply Pick.app))) (by (first | rfl | assumption | (simp; done) | omega)) ?_)
    refine JL.nil ?_
    refine JE.then_normal ?_
    refine J.seq ?_
    refine J.region ?_
    refine JL.step (y_assign rfl) rfl rfl rfl ?_
    refine JL.nil ?_
    refine JE.then_normal ?_
    refine J.seqK (α := Nat) (fun k => k ≤ ys.length ∧ (∀ (j : Nat) (y : FlowT), j < k → ys[j]? = some y → kl y (wfl w)) ∧ ∀ y, ys[k]? = some y → ¬ kl y (wfl w)) (fun k => [(3, .slice a ys.length c'), (5, .pointer (some ⟨b1, 0, none⟩)), (6, .int .i64 k), (7, .slice (some ⟨g, o, none⟩) n c), (8, .int .i64 n), (9, .int .i64 i)]) (fun _ => row b1 38 (wiE w) :: own 29 4 (.slice a ys.length c') ys.length (ys.flatMap flE) :: l) ?hj8 (fun hk8 => ?hf8)
    case hf8 =>
      refine J.block ?_
      refine J.loop (α := Nat) (fun k => k ≤ ys.length ∧ ∀ (j : Nat) (y : FlowT), j < k → ys[j]? = some y → kl y (wfl w)) (fun k => [(3, .slice a ys.length c'), (5, .pointer (some ⟨b1, 0, none⟩)), (6, .int .i64 k), (7, .slice (some ⟨g, o, none⟩) n c), (8, .int .i64 n), (9, .int .i64 i)]) (fun _ => row b1 38 (wiE w) :: own 29 4 (.slice a ys.length c') ys.length (ys.flatMap flE) :: l) (fun k => ys.length - k) 0 ⟨Nat.zero_le _, by omega⟩ ⟨rfl, rfl, rfl, rfl, rfl, rfl, trivial⟩ (fun w h => h) ?_
      rintro k ⟨hk, hbl⟩
      try dsimp only
      refine J.seq ?_
      refine J.seq ?_
      obtain hg | ⟨y, hg, hy, hgc⟩ : ¬ k < ys.length ∨ ∃ y, k < ys.length ∧ ys[k]? = some y ∧ (y.1 < w.2.1 ∨ w.2.1 < y.1 ∨ (y.1 = w.2.1 ∧ (y.2.1 < w.2.2.1 ∨ ¬ y.2.1 < w.2.2.1))) := by
        by_cases q : k < ys.length
        · exact .inr ⟨ys[k], q, List.getElem?_eq_getElem _, by omega⟩
        · exact .inl q
      rotate_left
      rcases hgc with q1 | q1 | ⟨q1, q2 | q2⟩
      all_goals try (obtain ⟨g2, o2, rfl, hr2⟩ := (hoy b1).addr (by omega); have hr3 : RdN _ g2 (o2 + k * 4) (flE y) := RdN.elem (hr2 []) (fun x _ => hkE x) hy; have hkly : kl y (wfl w) ↔ y.1 < w.2.1 ∨ y.1 = w.2.1 ∧ y.2.1 < w.2.2.1 := Iff.rfl)
      all_goals
        refine J.draw _ _ [(0, .q), (1, .q), (2, .q), (3, .q), (4, .q), (5, .q), (6, .q), (7, .q), (8, .q), (9, .q), (10, .q), (11, .q), (12, .q), (13, .q), (14, .q), (15, .q), (16, .q), (17, .q), (18, .q), (19, .q), (20, .q), (21, .q), (22, .q), (23, .q), (24, .q), (25, .q), (26, .q), (27, .q), (28, .q), (29, .q), (30, .q), (31, .q), (32, .q), (33, .q)] mixed (by kernel_rfl) (Split.nil) ?_
        refine JM.quiet rfl rfl rfl rfl (fun m => y_move rfl) ?_
        refine JM.quiet rfl rfl rfl rfl (fun m => y_move rfl) ?_
        refine JM.quiet rfl rfl rfl rfl (fun m => y_len_slice hT rfl rfl rfl) ?_
        first | refine JM.quiet rfl rfl rfl rfl (fun m => y_lssB rfl rfl (decide_eq_true (by omega))) ?_ | refine JM.quiet rfl rfl rfl rfl (fun m => y_lssB rfl rfl (decide_eq_false (by omega))) ?_
        refine JM.quiet rfl rfl rfl rfl (fun m => y_move rfl) ?_
        all_goals (first | refine JM.gskip rfl rfl rfl rfl rfl rfl rfl ?_ | refine JM.gskipU rfl rfl rfl rfl rfl rfl ?_ | refine JM.gquiet rfl rfl rfl rfl rfl rfl (fun m => y_move rfl) ?_)
        all_goals (first | refine JM.gskip rfl rfl rfl rfl rfl rfl rfl ?_ | refine JM.gskipU rfl rfl rfl rfl rfl rfl ?_ | refine JM.gquiet rfl rfl rfl rfl rfl rfl (fun m => y_move rfl) ?_)
        all_goals (first | refine JM.gskip rfl rfl rfl rfl rfl rfl rfl ?_ | refine JM.gskipU rfl rfl rfl rfl rfl rfl ?_ | refine JM.gquiet rfl rfl rfl rfl rfl rfl (fun m => y_indexAddr_slice hT rfl rfl rfl rfl rfl (by (first | omega | exact Nat.le_of_ble_eq_true rfl | decide | (simp; omega))) (by (first | omega | exact Nat.le_of_ble_eq_true rfl | decide | (simp; omega)))) ?_)
        all_goals (first | refine JM.gskip rfl rfl rfl rfl rfl rfl rfl ?_ | refine JM.gskipU rfl rfl rfl rfl rfl rfl ?_ | refine JM.gquiet rfl rfl rfl rfl rfl rfl (fun m => y_fieldAddr hT rfl rfl rfl rfl rfl rfl) ?_)
        all_goals (first | refine JM.gskip rfl rfl rfl rfl rfl rfl rfl ?_ | refine JM.gskipU rfl rfl rfl rfl rfl rfl ?_ | refine JM.gquiet rfl rfl rfl rfl rfl rfl (fun m => y_load1 hT rfl rfl rfl (Rd1.ofN (j := 0) (hr3.app m) rfl)) ?_)
        all_goals (first | refine JM.gskip rfl rfl rfl rfl rfl rfl rfl ?_ | refine JM.gskipU rfl rfl rfl rfl rfl rfl ?_ | refine JM.gquiet rfl rfl rfl rfl rfl rfl (fun m => y_fieldAddr hT rfl rfl rfl rfl rfl rfl) ?_)
        all_goals (first | refine JM.gskip rfl rfl rfl rfl rfl rfl rfl ?_ | refine JM.gskipU rfl rfl rfl rfl rfl rfl ?_ | refine JM.gquiet rfl rfl rfl rfl rfl rfl (fun m => y_load1 hT rfl rfl rfl (by (exact Rd1.row (Pick.app m (by (repeat (first | exact Pick.head | apply Pick.tail | apply Pick.app)))) (by rfl)))) ?_)
        all_goals (first | refine JM.gskip rfl rfl rfl rfl rfl rfl rfl ?_ | refine JM.gskipU rfl rfl rfl rfl rfl rfl ?_ | refine JM.gquiet rfl rfl rfl rfl rfl rfl (fun m => y_lssB rfl rfl (decide_eq_true (by omega))) ?_ | refine JM.gquiet rfl rfl rfl rfl rfl rfl (fun m => y_lssB rfl rfl (decide_eq_false (by omega))) ?_)
        all_goals (first | refine JM.gskip rfl rfl rfl rfl rfl rfl rfl ?_ | refine JM.gskipU rfl rfl rfl rfl rfl rfl ?_ | refine JM.gquiet rfl rfl rfl rfl rfl rfl (fun m => y_move rfl) ?_)
        all_goals (first | refine JM.gskip rfl rfl rfl rfl rfl rfl rfl ?_ | refine JM.gskipU rfl rfl rfl rfl rfl rfl ?_ | refine JM.gquiet rfl rfl rfl rfl rfl rfl (fun m => y_move rfl) ?_)
        all_goals (first | refine JM.gskip rfl rfl rfl rfl rfl rfl rfl ?_ | refine JM.gskipU rfl rfl rfl rfl rfl rfl ?_ | refine JM.gquiet rfl rfl rfl rfl rfl rfl (fun m => y_move rfl) ?_)
        all_goals (first | refine JM.gskip rfl rfl rfl rfl rfl rfl rfl ?_ | refine JM.gskipU rfl rfl rfl rfl rfl rfl ?_ | refine JM.gquiet rfl rfl rfl rfl rfl rfl (fun m => y_indexAddr_slice hT rfl rfl rfl rfl rfl (by (first | omega | exact Nat.le_of_ble_eq_true rfl | decide | (simp; omega))) (by (first | omega | exact Nat.le_of_ble_eq_true rfl | decide | (simp; omega)))) ?_)
        all_goals (first | refine JM.gskip rfl rfl rfl rfl rfl rfl rfl ?_ | refine JM.gskipU rfl rfl rfl rfl rfl rfl ?_ | refine JM.gquiet rfl rfl rfl rfl rfl rfl (fun m => y_fieldAddr hT rfl rfl rfl rfl rfl rfl) ?_)
        all_goals (first | refine JM.gskip rfl rfl rfl rfl rfl rfl rfl ?_ | refine JM.gskipU rfl rfl rfl rfl rfl rfl ?_ | refine JM.gquiet rfl rfl rfl rfl rfl rfl (fun m => y_load1 hT rfl rfl rfl (Rd1.ofN (j := 0) (hr3.app m) rfl)) ?_)
        all_goals (first | refine JM.gskip rfl rfl rfl rfl rfl rfl rfl ?_ | refine JM.gskipU rfl rfl rfl rfl rfl rfl ?_ | refine JM.gquiet rfl rfl rfl rfl rfl rfl (fun m => y_fieldAddr hT rfl rfl rfl rfl rfl rfl) ?_)
        all_goals (first | refine JM.gskip rfl rfl rfl rfl rfl rfl rfl ?_ | refine JM.gskipU rfl rfl rfl rfl rfl rfl ?_ | refine JM.gquiet rfl rfl rfl rfl rfl rfl (fun m => y_load1 hT rfl rfl rfl (by (exact Rd1.row (Pick.app m (by (repeat (first | exact Pick.head | apply Pick.tail | apply Pick.app)))) (by rfl)))) ?_)
        all_goals (first | refine JM.gskip rfl rfl rfl rfl rfl rfl rfl ?_ | refine JM.gskipU rfl rfl rfl rfl rfl rfl ?_ | refine JM.gquiet rfl rfl rfl rfl rfl rfl (fun m => y_eqlB rfl rfl (decide_eq_true (by omega))) ?_ | refine JM.gquiet rfl rfl rfl rfl rfl rfl (fun m => y_eqlB rfl rfl (decide_eq_false (by omega))) ?_)
        all_goals (first | refine JM.gskip rfl rfl rfl rfl rfl rfl rfl ?_ | refine JM.gskipU rfl rfl rfl rfl rfl rfl ?_ | refine JM.gquiet rfl rfl rfl rfl rfl rfl (fun m => y_move rfl) ?_)
        all_goals (first | refine JM.gskip rfl rfl rfl rfl rfl rfl rfl ?_ | refine JM.gskipU rfl rfl rfl rfl rfl rfl ?_ | refine JM.gquiet rfl rfl rfl rfl rfl rfl (fun m => y_move rfl) ?_)
        all_goals (first | refine JM.gskip rfl rfl rfl rfl rfl rfl rfl ?_ | refine JM.gskipU rfl rfl rfl rfl rfl rfl ?_ | refine JM.gquiet rfl rfl rfl rfl rfl rfl (fun m => y_move rfl) ?_)
        all_goals (first | refine JM.gskip rfl rfl rfl rfl rfl rfl rfl ?_ | refine JM.gskipU rfl rfl rfl rfl rfl rfl ?_ | refine JM.gquiet rfl rfl rfl rfl rfl rfl (fun m => y_indexAddr_slice hT rfl rfl rfl rfl rfl (by (first | omega | exact Nat.le_of_ble_eq_true rfl | decide | (simp; omega))) (by (first | omega | exact Nat.le_of_ble_eq_true rfl | decide | (simp; omega)))) ?_)
        all_goals (first | refine JM.gskip rfl rfl rfl rfl rfl rfl rfl ?_ | refine JM.gskipU rfl rfl rfl rfl rfl rfl ?_ | refine JM.gquiet rfl rfl rfl rfl rfl rfl (fun m => y_fieldAddr hT rfl rfl rfl rfl rfl rfl) ?_)
        all_goals (first | refine JM.gskip rfl rfl rfl rfl rfl rfl rfl ?_ | refine JM.gskipU rfl rfl rfl rfl rfl rfl ?_ | refine JM.gquiet rfl rfl rfl rfl rfl rfl (fun m => y_load1 hT rfl rfl rfl (Rd1.ofN (j := 1) (hr3.app m) rfl)) ?_)
        all_goals (first | refine JM.gskip rfl rfl rfl rfl rfl rfl rfl ?_ | refine JM.gskipU rfl rfl rfl rfl rfl rfl ?_ | refine JM.gquiet rfl rfl rfl rfl rfl rfl (fun m => y_fieldAddr hT rfl rfl rfl rfl rfl rfl) ?_)
        all_goals (first | refine JM.gskip rfl rfl rfl rfl rfl rfl rfl ?_ | refine JM.gskipU rfl rfl rfl rfl rfl rfl ?_ | refine JM.gquiet rfl rfl rfl rfl rfl rfl (fun m => y_load1 hT rfl rfl rfl (by (exact Rd1.row (Pick.app m (by (repeat (first | exact Pick.head | apply Pick.tail | apply Pick.app)))) (by rfl)))) ?_)
        all_goals (first | refine JM.gskip rfl rfl rfl rfl rfl rfl rfl ?_ | refine JM.gskipU rfl rfl rfl rfl rfl rfl ?_ | refine JM.gquiet rfl rfl rfl rfl rfl rfl (fun m => y_lssB rfl rfl (decide_eq_true (by omega))) ?_ | refine JM.gquiet rfl rfl rfl rfl rfl rfl (fun m => y_lssB rfl rfl (decide_eq_false (by omega))) ?_)
        all_goals (first | refine JM.gskip rfl rfl rfl rfl rfl rfl rfl ?_ | refine JM.gskipU rfl rfl rfl rfl rfl rfl ?_ | refine JM.gquiet rfl rfl rfl rfl rfl rfl (fun m => y_pick rfl rfl rfl) ?_)
        all_goals (first | refine JM.gskip rfl rfl rfl rfl rfl rfl rfl ?_ | refine JM.gskipU rfl rfl rfl rfl rfl rfl ?_ | refine JM.gquiet rfl rfl rfl rfl rfl rfl (fun m => y_pick rfl rfl rfl) ?_)
        all_goals refine JM.quiet rfl rfl rfl rfl (fun m => y_pick rfl rfl rfl) ?_
        all_goals refine JM.nil ?_
      all_goals refine JE.then_normal ?_
      all_goals
        first | apply J.cond_dec rfl | apply J.cond rfl
        case' ht =>
          intro h
          try (first | (exfalso; omega) | (cases h; done) | (exfalso; simp at h; done) | subst h)
          all_goals
            refine J.skip ?_
        case' hf =>
          intro h
          try (first | (exfalso; omega) | (cases h; done) | (exfalso; simp at h; done) | subst h)
          all_goals
            refine J.exit ?_
            refine JE.then_exit ?_
            refine JE.then_exit ?_
            refine JE.block_exit ?_
            refine JE.then_normal ?_
            first
            | exact J.closeK hk8 k ⟨hk, hbl, fun y' hy' => by rw [List.getElem?_eq_none (by omega)] at hy'; cases hy'⟩ ⟨rfl, rfl, rfl, rfl, rfl, rfl, trivial⟩ (fun w h => h)
            | exact J.closeK hk8 k ⟨hk, hbl, fun y' hy' => by rw [hy] at hy'; cases hy'; rw [hkly]; omega⟩ ⟨rfl, rfl, rfl, rfl, rfl, rfl, trivial⟩ (fun w h => h)
      all_goals refine JE.then_normal ?_
      all_goals
        refine J.block ?_
        refine J.region ?_
        refine JL.step (y_move rfl) rfl rfl rfl ?_
        refine JL.step (y_add rfl rfl (by (first | exact wrap_i64 (by omega) (by omega) | rfl))) rfl rfl rfl ?_
        refine JL.step (y_assign rfl) rfl rfl rfl ?_
        refine JL.nil ?_
        refine JE.block_normal ?_
      all_goals
        exact JE.round (s := k) (k + 1) ⟨by omega, fun j y' hj hy' => by
          rcases Nat.lt_or_ge j k with q | q
          · exact hbl j y' q hy'
          · obtain rfl : j = k := by omega
            rw [hy] at hy'
            cases hy'
            rw [hkly]; omega⟩ ⟨rfl, rfl, rfl, rfl, rfl, rfl, trivial⟩ (fun w h => h) (by omega)
    rintro k ⟨hk, hbl, hge⟩
    try dsimp only
    have hpu := plW_at hk hbl hge
    refine J.seqK (α := Option Addr × Nat × List FlowT × FlowT) (fun s => s.2.2.1[k]? = some s.2.2.2 ∧ s.2.2.1.length ≤ ys.length + 1 ∧ plW w ys = s.2.2.1.set k (s.2.2.2.1, s.2.2.2.2.1, wr (s.2.2.2.2.2.1 + w.2.2.2.1), wr (s.2.2.2.2.2.2 + w.2.2.2.2))) (fun s => [(3, .slice s.1 s.2.2.1.length s.2.1), (5, .pointer (some ⟨b1, 0, none⟩)), (6, .int .i64 k), (7, .slice (some ⟨g, o, none⟩) n c), (8, .int .i64 n), (9, .int .i64 i)]) (fun s => own 29 4 (.slice s.1 s.2.2.1.length s.2.1) s.2.2.1.length (s.2.2.1.flatMap flE) :: row b1 38 (wiE w) :: l) ?hj10 (fun hk10 => ?hf10)
    case hf10 =>
      refine J.seq ?_
      obtain hg | ⟨y, hg, hy, hgc⟩ : ¬ k < ys.length ∨ ∃ y, k < ys.length ∧ ys[k]? = some y ∧ (y.1 ≠ w.2.1 ∨ (y.1 = w.2.1 ∧ (y.2.1 ≠ w.2.2.1 ∨ y.2.1 = w.2.2.1))) := by
        by_cases q : k < ys.length
        · exact .inr ⟨ys[k], q, List.getElem?_eq_getElem _, by omega⟩
        · exact .inl q
      rotate_left
      rcases hgc with q1 | ⟨q1, q2 | q2⟩
      all_goals try (obtain ⟨g2, o2, rfl, hr2⟩ := (hoy b1).addr (by omega); have hr3 : RdN _ g2 (o2 + k * 4) (flE y) := RdN.elem (hr2 []) (fun x _ => hkE x) hy)
      all_goals
        refine J.draw _ _ [(0, .q), (1, .q), (2, .q), (3, .q), (4, .q), (5, .q), (6, .q), (7, .q), (8, .q), (9, .q), (10, .q), (11, .q), (12, .q), (13, .q), (14, .q), (15, .q), (16, .q), (17, .q), (18, .q), (19, .q), (20, .q), (21, .q), (22, .q), (23, .q)] mixed (by kernel_rfl) (Split.nil) ?_
        refine JM.quiet rfl rfl rfl rfl (fun m => y_move rfl) ?_
        refine JM.quiet rfl rfl rfl rfl (fun m => y_move rfl) ?_
        refine JM.quiet rfl rfl rfl rfl (fun m => y_len_slice hT rfl rfl rfl) ?_
        first | refine JM.quiet rfl rfl rfl rfl (fun m => y_eqlB rfl rfl (decide_eq_true (by omega))) ?_ | refine JM.quiet rfl rfl rfl rfl (fun m => y_eqlB rfl rfl (decide_eq_false (by omega))) ?_
        refine JM.quiet rfl rfl rfl rfl (fun m => y_move rfl) ?_
        all_goals (first | refine JM.gskip rfl rfl rfl rfl rfl rfl rfl ?_ | refine JM.gskipU rfl rfl rfl rfl rfl rfl ?_ | refine JM.gquiet rfl rfl rfl rfl rfl rfl (fun m => y_move rfl) ?_)
        all_goals (first | refine JM.gskip rfl rfl rfl rfl rfl rfl rfl ?_ | refine JM.gskipU rfl rfl rfl rfl rfl rfl ?_ | refine JM.gquiet rfl rfl rfl rfl rfl rfl (fun m => y_move rfl) ?_)
        all_goals (first | refine JM.gskip rfl rfl rfl rfl rfl rfl rfl ?_ | refine JM.gskipU rfl rfl rfl rfl rfl rfl ?_ | refine JM.gquiet rfl rfl rfl rfl rfl rfl (fun m => y_indexAddr_slice hT rfl rfl rfl rfl rfl (by (first | omega | exact Nat.le_of_ble_eq_true rfl | decide | (simp; omega))) (by (first | omega | exact Nat.le_of_ble_eq_true rfl | decide | (simp; omega)))) ?_)
        all_goals (first | refine JM.gskip rfl rfl rfl rfl rfl rfl rfl ?_ | refine JM.gskipU rfl rfl rfl rfl rfl rfl ?_ | refine JM.gquiet rfl rfl rfl rfl rfl rfl (fun m => y_fieldAddr hT rfl rfl rfl rfl rfl rfl) ?_)
        all_goals (first | refine JM.gskip rfl rfl rfl rfl rfl rfl rfl ?_ | refine JM.gskipU rfl rfl rfl rfl rfl rfl ?_ | refine JM.gquiet rfl rfl rfl rfl rfl rfl (fun m => y_load1 hT rfl rfl rfl (Rd1.ofN (j := 0) (hr3.app m) rfl)) ?_)
        all_goals (first | refine JM.gskip rfl rfl rfl rfl rfl rfl rfl ?_ | refine JM.gskipU rfl rfl rfl rfl rfl rfl ?_ | refine JM.gquiet rfl rfl rfl rfl rfl rfl (fun m => y_fieldAddr hT rfl rfl rfl rfl rfl rfl) ?_)
        all_goals (first | refine JM.gskip rfl rfl rfl rfl rfl rfl rfl ?_ | refine JM.gskipU rfl rfl rfl rfl rfl rfl ?_ | refine JM.gquiet rfl rfl rfl rfl rfl rfl (fun m => y_load1 hT rfl rfl rfl (by (exact Rd1.row (Pick.app m (by (repeat (first | exact Pick.head | apply Pick.tail | apply Pick.app)))) (by rfl)))) ?_)
        all_goals (first | refine JM.gskip rfl rfl rfl rfl rfl rfl rfl ?_ | refine JM.gskipU rfl rfl rfl rfl rfl rfl ?_ | refine JM.gquiet rfl rfl rfl rfl rfl rfl (fun m => y_neqB rfl rfl (decide_eq_true (by omega))) ?_ | refine JM.gquiet rfl rfl rfl rfl rfl rfl (fun m => y_neqB rfl rfl (decide_eq_false (by omega))) ?_)
        all_goals refine JM.quiet rfl rfl rfl rfl (fun m => y_pick rfl rfl rfl) ?_
        all_goals refine JM.quiet rfl rfl rfl rfl (fun m => y_move rfl) ?_
        all_goals (first | refine JM.gskip rfl rfl rfl rfl rfl rfl rfl ?_ | refine JM.gskipU rfl rfl rfl rfl rfl rfl ?_ | refine JM.gquiet rfl rfl rfl rfl rfl rfl (fun m => y_move rfl) ?_)
        all_goals (first | refine JM.gskip rfl rfl rfl rfl rfl rfl rfl ?_ | refine JM.gskipU rfl rfl rfl rfl rfl rfl ?_ | refine JM.gquiet rfl rfl rfl rfl rfl rfl (fun m => y_move rfl) ?_)
        all_goals (first | refine JM.gskip rfl rfl rfl rfl rfl rfl rfl ?_ | refine JM.gskipU rfl rfl rfl rfl rfl rfl ?_ | refine JM.gquiet rfl rfl rfl rfl rfl rfl (fun m => y_indexAddr_slice hT rfl rfl rfl rfl rfl (by (first | omega | exact Nat.le_of_ble_eq_true rfl | decide | (simp; omega))) (by (first | omega | exact Nat.le_of_ble_eq_true rfl | decide | (simp; omega)))) ?_)
        all_goals (first | refine JM.gskip rfl rfl rfl rfl rfl rfl rfl ?_ | refine JM.gskipU rfl rfl rfl rfl rfl rfl ?_ | refine JM.gquiet rfl rfl rfl rfl rfl rfl (fun m => y_fieldAddr hT rfl rfl rfl rfl rfl rfl) ?_)
        all_goals (first | refine JM.gskip rfl rfl rfl rfl rfl rfl rfl ?_ | refine JM.gskipU rfl rfl rfl rfl rfl rfl ?_ | refine JM.gquiet rfl rfl rfl rfl rfl rfl (fun m => y_load1 hT rfl rfl rfl (Rd1.ofN (j := 1) (hr3.app m) rfl)) ?_)
        all_goals (first | refine JM.gskip rfl rfl rfl rfl rfl rfl rfl ?_ | refine JM.gskipU rfl rfl rfl rfl rfl rfl ?_ | refine JM.gquiet rfl rfl rfl rfl rfl rfl (fun m => y_fieldAddr hT rfl rfl rfl rfl rfl rfl) ?_)
        all_goals (first | refine JM.gskip rfl rfl rfl rfl rfl rfl rfl ?_ | refine JM.gskipU rfl rfl rfl rfl rfl rfl ?_ | refine JM.gquiet rfl rfl rfl rfl rfl rfl (fun m => y_load1 hT rfl rfl rfl (by (exact Rd1.row (Pick.app m (by (repeat (first | exact Pick.head | apply Pick.tail | apply Pick.app)))) (by rfl)))) ?_)
        all_goals (first | refine JM.gskip rfl rfl rfl rfl rfl rfl rfl ?_ | refine JM.gskipU rfl rfl rfl rfl rfl rfl ?_ | refine JM.gquiet rfl rfl rfl rfl rfl rfl (fun m => y_neqB rfl rfl (decide_eq_true (by omega))) ?_ | refine JM.gquiet rfl rfl rfl rfl rfl rfl (fun m => y_neqB rfl rfl (decide_eq_false (by omega))) ?_)
        all_goals refine JM.quiet rfl rfl rfl rfl (fun m => y_pick rfl rfl rfl) ?_
        all_goals refine JM.nil ?_
      all_goals refine JE.then_normal ?_
      all_goals
        first | apply J.cond_dec rfl | apply J.cond rfl
        case' ht =>
          intro h
          try (first | (exfalso; omega) | (cases h; done) | (exfalso; simp at h; done) | subst h)
          all_goals
            all_goals
              have hins : plW w ys = ys.take k ++ wfl w :: ys.drop k := by
                first
                | (rw [hy] at hpu; dsimp only at hpu; rw [if_neg (by omega)] at hpu; exact hpu)
                | (rw [List.getElem?_eq_none (by omega)] at hpu; exact hpu)
            all_goals obtain ⟨gb, ob, hp0, hb1, hb2⟩ := (hoy b1).both (k := k) (s := 4) hk (by rw [fls_len])
            all_goals have hle := (hoy b1).le
            all_goals
              refine J.draw _ _ [(0, .q), (1, .q), (2, .q), (3, .q), (4, .q), (5, .q), (6, .q), (7, .q), (8, .q), (10, .q), (11, .q), (12, .q), (9, .l), (13, .l), (14, .l), (15, .q)] mixed (by kernel_rfl) (Split.nil) ?_
              refine JM.quiet rfl rfl rfl rfl (fun m => y_move rfl) ?_
              refine JM.quiet rfl rfl rfl rfl (fun m => y_move rfl) ?_
              refine JM.quiet rfl rfl rfl rfl (fun m => y_move rfl) ?_
              refine JM.quiet rfl rfl rfl rfl (fun m => y_slice3 (lo := 0) (hi := k) (mx := k) hT rfl rfl rfl rfl (.inl ⟨rfl, rfl⟩) rfl rfl rfl rfl (Nat.zero_le _) (Nat.le_refl _) (by omega) hp0) ?_
              refine JM.quiet rfl rfl rfl rfl (fun m => y_fieldAddr hT rfl rfl rfl rfl rfl rfl) ?_
              refine JM.quiet rfl rfl rfl rfl (fun m => y_load1 hT rfl rfl rfl (by (exact Rd1.row (Pick.app m (by (repeat (first | exact Pick.head | apply Pick.tail | apply Pick.app)))) (by rfl)))) ?_
              refine JM.quiet rfl rfl rfl rfl (fun m => y_fieldAddr hT rfl rfl rfl rfl rfl rfl) ?_
              refine JM.quiet rfl rfl rfl rfl (fun m => y_load1 hT rfl rfl rfl (by (exact Rd1.row (Pick.app m (by (repeat (first | exact Pick.head | apply Pick.tail | apply Pick.app)))) (by rfl)))) ?_
              refine JM.quiet rfl rfl rfl rfl (fun m => y_build (cs := flE (w.2.1, w.2.2.1, 0, 0)) hT rfl rfl rfl rfl rfl rfl ⟨⟨rfl, Nat.le_of_ble_eq_true rfl⟩, ⟨rfl, Nat.le_of_ble_eq_true rfl⟩, trivial⟩ rfl) ?_
              refine JM.quiet rfl rfl rfl rfl (fun m => y_move rfl) ?_
              refine JM.quiet rfl rfl rfl rfl (fun m => y_move rfl) ?_
              refine JM.quiet rfl rfl rfl rfl (fun m => y_slice (lo := k) (hi := ys.length) hT rfl rfl rfl rfl (.inr ⟨_, _, _, rfl, rfl, rfl⟩) (.inl ⟨rfl, rfl⟩) hk (by omega) (by omega) hp0) ?_
              refine JM.loud rfl rfl (fun fr => l_buildSliceO (cs := flE (w.2.1, w.2.2.1, 0, 0)) hT rfl rfl rfl rfl rfl rfl rfl (fill_one rfl rfl) rfl rfl (by unfold maxLen; omega) (fun b5 => ⟨[_], (by (repeat (first | exact Split.nil | exact Split.all | refine Split.cons Pick.head ?_))), ?_⟩))
              refine JM.loud rfl rfl (fun fr => l_appendIn hT rfl rfl rfl rfl rfl rfl rfl rfl (by (repeat (first | exact Pick.head | apply Pick.tail | apply Pick.app))) ((hb2.app fr).app _) (by rw [show i29.size = 4 from rfl, List.length_drop, fls_len]; omega) (fun u hu => fls_one ys u (List.mem_of_mem_drop hu)) (by rw [show i29.bytes = 32 from rfl]; omega) (by omega) rfl (fun a9 c9 hc9 => ⟨[_], (by (repeat (first | exact Split.nil | exact Split.all | refine Split.cons Pick.head ?_))), ?_⟩))
              refine JM.loud rfl rfl (fun fr => LS.fact (fun w s => Sat.own_at (s.pick Pick.head)) fun o9 => l_appendClipIn hT rfl rfl rfl rfl rfl rfl rfl ((hb1.app fr).app _) (by rw [show i29.size = 4 from rfl, List.length_take, fls_len]; omega) (o9.inl Pick.head) (by rw [show i29.size = 4 from rfl, List.length_append, List.length_drop, fls_len, hkE]; omega) (by omega) (by rw [show i29.bytes = 32 from rfl]; omega) (by omega) rfl (fun a10 c10 hc10 => ⟨[_, _], (by (repeat (first | exact Split.nil | exact Split.all | refine Split.cons Pick.head ?_))), ?_⟩))
              refine JM.quiet rfl rfl rfl rfl (fun m => y_assign rfl) ?_
              refine JM.nil ?_
        case' hf =>
          intro h
          try (first | (exfalso; omega) | (cases h; done) | (exfalso; simp at h; done) | subst h)
          all_goals
            refine J.skip ?_
      all_goals refine JE.then_normal ?_
      all_goals
        first
        | exact J.closeK hk10 (a10, c10, ys.take k ++ (w.2.1, w.2.2.1, 0, 0) :: ys.drop k, (w.2.1, w.2.2.1, 0, 0)) ⟨by
            dsimp only
            rw [List.getElem?_append_right (by rw [List.length_take]; omega), List.length_take, Nat.min_eq_left hk, Nat.sub_self]; rfl, by
            dsimp only
            rw [List.length_append, List.length_cons, List.length_take, List.length_drop]; omega, by
            dsimp only
            rw [hins, List.set_append_right _ _ (by rw [List.length_take]; omega), List.length_take, Nat.min_eq_left hk, Nat.sub_self]; rfl⟩ ⟨by
            dsimp only
            rw [show (ys.take k ++ (w.2.1, w.2.2.1, 0, 0) :: ys.drop k).length = k - 0 + (1 + (ys.length - k)) by rw [List.length_append, List.length_cons, List.length_take, List.length_drop]; omega]
            rfl, rfl, rfl, rfl, rfl, rfl, trivial⟩ (fun w2 h => by
            dsimp only
            rw [show (ys.take k ++ (w.2.1, w.2.2.1, 0, 0) :: ys.drop k).length = k - 0 + (1 + (ys.length - k)) by rw [List.length_append, List.length_cons, List.length_take, List.length_drop]; omega]
            have e : (ys.take k ++ (w.2.1, w.2.2.1, 0, 0) :: ys.drop k).flatMap flE = (ys.flatMap flE).take (k * 4) ++ (flE (w.2.1, w.2.2.1, 0, 0) ++ (ys.flatMap flE).drop (k * 4)) := by
              rw [List.flatMap_append, List.flatMap_cons, seg_take fun x _ => hkE x, seg_drop fun x _ => hkE x]
            rw [e]
            exact h.sup (by (repeat (first | exact Sup.refl | apply Sup.cons (by (repeat (first | exact Pick.head | apply Pick.tail | apply Pick.app))) | apply Sup.app | apply Sup.skip | apply Sup.skips))))
        | exact J.closeK hk10 (some ⟨g2, o2, none⟩, c', ys, y) ⟨hy, by dsimp only; omega, by rw [hy] at hpu; dsimp only at hpu; rw [if_pos ⟨q1, q2⟩] at hpu; exact hpu⟩ ⟨rfl, rfl, rfl, rfl, rfl, rfl, trivial⟩ (fun w h => h.sup (by (repeat (first | exact Sup.refl | apply Sup.cons (by (repeat (first | exact Pick.head | apply Pick.tail | apply Pick.app))) | apply Sup.app | apply Sup.skip | apply Sup.skips))))
    rintro ⟨a3, c3, zs, f⟩ ⟨hf, hzl, hzp⟩
    dsimp only at hf hzl hzp ⊢
    have hkz : k < zs.length := (List.getElem?_eq_some_iff.1 hf).1
    refine J.fact (fun w s => Sat.own_at (s.pick Pick.head)) fun o3 => ?_
    obtain ⟨g3, rfl⟩ : ∃ g3, a3 = some ⟨g3, 0, none⟩ := by
      rcases o3.at_ with q | ⟨q, _⟩
      · exact q
      · have := o3.le; omega
    have hr4 : ∀ (fs : List FlowT) (f : FlowT) (r : List HProp), fs[k]? = some f → RdN (own 29 4 (.slice (some ⟨g3, 0, none⟩) zs.length c3) zs.length (fs.flatMap flE) :: r) g3 (0 + k * 4) (flE f) := fun fs f r h => RdN.elem (RdN.own Pick.head) (fun x _ => hkE x) h
    refine J.seq ?_
    refine J.draw _ _ [(0, .q), (1, .q), (2, .q), (3, .q), (5, .q), (6, .q), (4, .e), (7, .q), (8, .q), (9, .q), (10, .l)] mixed (by kernel_rfl) (Split.cons (Pick.head) (Split.nil)) ?_
    refine JM.quiet rfl rfl rfl rfl (fun m => y_move rfl) ?_
    refine JM.quiet rfl rfl rfl rfl (fun m => y_move rfl) ?_
    refine JM.quiet rfl rfl rfl rfl (fun m => y_indexAddr_slice hT rfl rfl rfl rfl rfl (by (first | omega | exact Nat.le_of_ble_eq_true rfl | decide | (simp; omega))) (by (first | omega | exact Nat.le_of_ble_eq_true rfl | decide | (simp; omega)))) ?_
    refine JM.quiet rfl rfl rfl rfl (fun m => y_fieldAddr hT rfl rfl rfl rfl rfl rfl) ?_
    refine JM.quiet rfl rfl rfl rfl (fun m => y_fieldAddr hT rfl rfl rfl rfl rfl rfl) ?_
    refine JM.quiet rfl rfl rfl rfl (fun m => y_load1 hT rfl rfl rfl (by (exact Rd1.row (Pick.app m (by (repeat (first | exact Pick.head | apply Pick.tail | apply Pick.app)))) (by rfl)))) ?_
    refine JM.early rfl rfl rfl rfl (fun fr => y_load1 hT rfl rfl rfl (Rd1.ofN (j := 2) (hr4 zs f _ hf) rfl)) ?_
    refine JM.quiet rfl rfl rfl rfl (fun m => y_add (m := wr (f.2.2.1 + w.2.2.2.1)) rfl rfl rfl) ?_
    refine JM.quiet rfl rfl rfl rfl (fun m => y_indexAddr_slice hT rfl rfl rfl rfl rfl (by (first | omega | exact Nat.le_of_ble_eq_true rfl | decide | (simp; omega))) (by (first | omega | exact Nat.le_of_ble_eq_true rfl | decide | (simp; omega)))) ?_
    refine JM.quiet rfl rfl rfl rfl (fun m => y_fieldAddr hT rfl rfl rfl rfl rfl rfl) ?_
    refine JM.loud rfl rfl (fun fr => l_storeOwn1 hT rfl rfl rfl rfl rfl (by (repeat (first | exact Pick.head | apply Pick.tail | apply Pick.app))) (by rw [fls_len]; show 0 + k * 4 + 2 < _; omega) ⟨[_], (by (repeat (first | exact Split.nil | exact Split.all | refine Split.cons Pick.head ?_))), ?_⟩)
    refine JM.nil ?_
    refine JE.then_normal ?_
    refine J.pre (l' := own 29 4 (.slice (some ⟨g3, 0, none⟩) zs.length c3) zs.length ((zs.set k (f.1, f.2.1, wr (f.2.2.1 + w.2.2.2.1), f.2.2.2)).flatMap flE) :: row b1 38 (wiE w) :: l) (fun w s => by rw [← fl_set2 _ hf, ← Nat.zero_add (k * 4)]; exact s.sup (by (repeat (first | exact Sup.refl | apply Sup.cons (by (repeat (first | exact Pick.head | apply Pick.tail | apply Pick.app))) | apply Sup.app | apply Sup.skip | apply Sup.skips)))) ?_
    have hf2 : (zs.set k (f.1, f.2.1, wr (f.2.2.1 + w.2.2.2.1), f.2.2.2))[k]? = some (f.1, f.2.1, wr (f.2.2.1 + w.2.2.2.1), f.2.2.2) := by rw [List.getElem?_set_self hkz]
    refine J.draw _ _ [(0, .q), (1, .q), (2, .q), (3, .q), (5, .q), (6, .q), (4, .e), (7, .q), (8, .q), (9, .q), (10, .l)] mixed (by kernel_rfl) (Split.cons (Pick.head) (Split.nil)) ?_
    refine JM.quiet rfl rfl rfl rfl (fun m => y_move rfl) ?_
    refine JM.quiet rfl rfl rfl rfl (fun m => y_move rfl) ?_
    refine JM.quiet rfl rfl rfl rfl (fun m => y_indexAddr_slice hT rfl rfl rfl rfl rfl (by (first | omega | exact Nat.le_of_ble_eq_true rfl | decide | (simp; omega))) (by (first | omega | exact Nat.le_of_ble_eq_true rfl | decide | (simp; omega)))) ?_
    refine JM.quiet rfl rfl rfl rfl (fun m => y_fieldAddr hT rfl rfl rfl rfl rfl rfl) ?_
    refine JM.quiet rfl rfl rfl rfl (fun m => y_fieldAddr hT rfl rfl rfl rfl rfl rfl) ?_
    refine JM.quiet rfl rfl rfl rfl (fun m => y_load1 hT rfl rfl rfl (by (exact Rd1.row (Pick.app m (by (repeat (first | exact Pick.head | apply Pick.tail | apply Pick.app)))) (by rfl)))) ?_
    refine JM.early rfl rfl rfl rfl (fun fr => y_load1 hT rfl rfl rfl (Rd1.ofN (j := 3) (hr4 _ _ _ hf2) rfl)) ?_
    refine JM.quiet rfl rfl rfl rfl (fun m => y_add (m := wr (f.2.2.2 + w.2.2.2.2)) rfl rfl rfl) ?_
    refine JM.quiet rfl rfl rfl rfl (fun m => y_indexAddr_slice hT rfl rfl rfl rfl rfl (by (first | omega | exact Nat.le_of_ble_eq_true rfl | decide | (simp; omega))) (by (first | omega | exact Nat.le_of_ble_eq_true rfl | decide | (simp; omega)))) ?_
    refine JM.quiet rfl rfl rfl rfl (fun m => y_fieldAddr hT rfl rfl rfl rfl rfl rfl) ?_
    refine JM.loud rfl rfl (fun fr => l_storeOwn1 hT rfl rfl rfl rfl rfl (by (repeat (first | exact Pick.head | apply Pick.tail | apply Pick.app))) (by rw [fls_len, List.length_set]; show 0 + k * 4 + 3 < _; omega) ⟨[_], (by (repeat (first | exact Split.nil | exact Split.all | refine Split.cons Pick.head ?_))), ?_⟩)
    refine JM.nil ?_
    all_goals refine JE.block_normal ?_
    all_goals refine JE.then_normal ?_
    all_goals
      refine J.region ?_
      refine JL.step (y_add rfl rfl (by (first | exact wrap_i64 (by omega) (by omega) | rfl))) rfl rfl rfl ?_
      refine JL.step (y_move rfl) rfl rfl rfl ?_
      refine JL.nil ?_
  all_goals
    exact JE.round (s := (i, a, c')) (i + 1, some ⟨g3, 0, none⟩, c3) (by dsimp only; omega) ⟨by dsimp only; rw [hst, hzp, List.length_set]; rfl, rfl, rfl, rfl, trivial⟩ (fun w2 h => by
      dsimp only
      rw [hst, hzp, List.length_set]
      have e : zs.set k (f.1, f.2.1, wr (f.2.2.1 + w.2.2.2.1), wr (f.2.2.2 + w.2.2.2.2)) = (zs.set k (f.1, f.2.1, wr (f.2.2.1 + w.2.2.2.1), f.2.2.2)).set k (f.1, f.2.1, wr (f.2.2.1 + w.2.2.2.1), wr (f.2.2.2 + w.2.2.2.2)) := by rw [List.set_set]
      rw [e, ← fl_set3 _ hf2, ← Nat.zero_add (k * 4)]
      exact h.sup (by (repeat (first | exact Sup.refl | apply Sup.cons (by (repeat (first | exact Pick.head | apply Pick.tail | apply Pick.app))) | apply Sup.app | apply Sup.skip | apply Sup.skips)))) (by dsimp only; omega)
end
end
end Go.Proofs.YtfohdnclpbipeaaDoor
