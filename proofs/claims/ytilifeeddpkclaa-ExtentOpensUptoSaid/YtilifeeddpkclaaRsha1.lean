import Derived.Test.YtilifeeddpkclaaSha5
namespace Go.Proofs.Ytilifeeddpkclaa
open Go Go.SL
/-! The document's hash (hollowtreeref04) is the same one. -/
attribute [local irreducible] J JL JE JM LS Y Fc RV Code.wp wpList Code.wpIn wpListIn
variable (E : World)
theorem rright_spec (x : BitVec 32) (k : Nat) (hk : k ≤ 32) (l : List HProp) : Fc prog E 102 [W x, .int .i64 (k : Int)].toArray l (fun v l' => v = W (rotr x k) ∧ l' = l) := by
  refine Fc.of_body (c := ?c) Try.func102 ?hb Try.ntmps102 ?hl ?_
  case hb => exact rfl
  case hl => exact rfl
  refine J.seq ?_
  refine J.region ?_
  refine JL.step (y_assign rfl) rfl rfl rfl ?_
  refine JL.nil ?_
  refine JE.then_normal ?_
  refine J.seq ?_
  refine J.draw _ _ [(0, .q), (1, .q), (2, .q), (3, .q), (4, .q), (5, .q), (6, .q), (7, .q), (8, .q)] mixed (by kernel_rfl) (Split.nil) ?_
  refine JM.quiet rfl rfl rfl rfl (fun m => y_move rfl) ?_
  refine JM.quiet rfl rfl rfl rfl (fun m => y_move rfl) ?_
  refine JM.quiet rfl rfl rfl rfl (fun m => (by first | exact y_shrW rfl rfl (by (first | omega | exact Nat.le_of_ble_eq_true rfl | decide | (simp; omega))) (by (first | omega | exact Nat.le_of_ble_eq_true rfl | decide | (simp; omega))) | exact y_shr rfl rfl (by (first | omega | exact Nat.le_of_ble_eq_true rfl | decide | (simp; omega))) (by rfl))) ?_
  refine JM.quiet rfl rfl rfl rfl (fun m => y_move rfl) ?_
  refine JM.quiet rfl rfl rfl rfl (fun m => y_move rfl) ?_
  refine JM.quiet rfl rfl rfl rfl (fun m => y_sub (m := ((32 - k : Nat) : Int)) rfl rfl (by rw [show (32 : Int) - k = ((32 - k : Nat) : Int) by omega]; exact wrap_i64 (by omega) (by omega))) ?_
  refine JM.quiet rfl rfl rfl rfl (fun m => (by first | exact y_shlW rfl rfl (by (first | omega | exact Nat.le_of_ble_eq_true rfl | decide | (simp; omega))) (by (first | omega | exact Nat.le_of_ble_eq_true rfl | decide | (simp; omega))) | exact y_shl rfl rfl (by (first | omega | exact Nat.le_of_ble_eq_true rfl | decide | (simp; omega))) (by rfl))) ?_
  refine JM.quiet rfl rfl rfl rfl (fun m => (by first | exact y_orW rfl rfl | exact y_bits rfl rfl (by rfl))) ?_
  refine JM.quiet rfl rfl rfl rfl (fun m => y_assign rfl) ?_
  refine JM.nil ?_
  refine JE.then_normal ?_
  refine J.ret ?_
  refine JE.ret1 (.inl rfl) rfl rfl (by (first | exact RV.tmp rfl | exact RV.cell1 hT rfl rfl rfl (by (exact Rd1.row (by (repeat (first | exact Pick.head | apply Pick.tail | apply Pick.app))) (by rfl))) | exact RV.cellN hT rfl rfl rfl (by (first | exact RdN.rowAll (by (repeat (first | exact Pick.head | apply Pick.tail | apply Pick.app))) | exact RdN.own (by (repeat (first | exact Pick.head | apply Pick.tail | apply Pick.app))))) (by (first | rfl | assumption | (simp; done) | omega)))) ?_
  exact ⟨rfl, rfl⟩
set_option maxRecDepth 20000 in
theorem rconst_spec (l : List HProp) : Fc prog E 99 [].toArray l (fun v l' => v = .agg (K64.map W).toArray ∧ l' = l) := by
  refine Fc.eqs ?_
  have h64 : (K64.map W).length = 64 := rfl
  refine Fc.of_body (c := ?c) Try.func99 ?hb Try.ntmps99 ?hl ?_
  case hb => exact rfl
  case hl => exact rfl
  refine J.seq ?_
  refine J.region ?_
  refine JL.loud rfl (l_alloc hT rfl rfl (by (first | rfl | simp)) rfl (fun b1 => ?_))
  refine JL.nil ?_
  refine JE.then_normal ?_
  refine J.seq ?_
  refine J.region ?_
  refine JL.step (y_buildArr (cs := K64.map W) hT rfl rfl rfl rfl rfl (by kernel_rfl)) rfl rfl rfl ?_
  refine JL.loud rfl (l_storeAll hT rfl rfl rfl (by (first | rfl | assumption | (simp; done) | omega)) (by (first | assumption | exact ones_of rfl | exact encW_one _ | exact encB_one _ | (intro u hu; simp at hu; rcases hu with rfl | rfl <;> rfl) | (intro u hu; simp at hu; subst hu; rfl) | simp)) (by (repeat (first | exact Pick.head | apply Pick.tail | apply Pick.app))) (by (first | rfl | assumption | (simp; done) | omega)) ?_)
  refine JL.nil ?_
  refine JE.then_normal ?_
  refine J.ret ?_
  refine JE.ret1 (.inl rfl) rfl rfl (by (first | exact RV.tmp rfl | exact RV.cell1 hT rfl rfl rfl (by (exact Rd1.row (by (repeat (first | exact Pick.head | apply Pick.tail | apply Pick.app))) (by rfl))) | exact RV.cellN hT rfl rfl rfl (by (first | exact RdN.rowAll (by (repeat (first | exact Pick.head | apply Pick.tail | apply Pick.app))) | exact RdN.own (by (repeat (first | exact Pick.head | apply Pick.tail | apply Pick.app))))) (by (first | rfl | assumption | (simp; done) | omega)))) ?_
  exact ⟨rfl, fun w q => q.sup (by (repeat (first | exact Sup.refl | apply Sup.cons (by (repeat (first | exact Pick.head | apply Pick.tail | apply Pick.app))) | apply Sup.app | apply Sup.skip | apply Sup.skips)))⟩
theorem rbegin_spec (l : List HProp) : Fc prog E 101 [].toArray l (fun v l' => v = .agg (init8.list.map W).toArray ∧ l' = l) := by
  refine Fc.eqs ?_
  have h8 : (init8.list.map W).length = 8 := rfl
  refine Fc.of_body (c := ?c) Try.func101 ?hb Try.ntmps101 ?hl ?_
  case hb => exact rfl
  case hl => exact rfl
  refine J.seq ?_
  refine J.region ?_
  refine JL.loud rfl (l_alloc hT rfl rfl (by (first | rfl | simp)) rfl (fun b1 => ?_))
  refine JL.nil ?_
  refine JE.then_normal ?_
  refine J.seq ?_
  refine J.region ?_
  refine JL.step (y_buildArr (cs := init8.list.map W) hT rfl rfl rfl rfl rfl (by kernel_rfl)) rfl rfl rfl ?_
  refine JL.loud rfl (l_storeAll hT rfl rfl rfl (by (first | rfl | assumption | (simp; done) | omega)) (by (first | assumption | exact ones_of rfl | exact encW_one _ | exact encB_one _ | (intro u hu; simp at hu; rcases hu with rfl | rfl <;> rfl) | (intro u hu; simp at hu; subst hu; rfl) | simp)) (by (repeat (first | exact Pick.head | apply Pick.tail | apply Pick.app))) (by (first | rfl | assumption | (simp; done) | omega)) ?_)
  refine JL.nil ?_
  refine JE.then_normal ?_
  refine J.ret ?_
  refine JE.ret1 (.inl rfl) rfl rfl (by (first | exact RV.tmp rfl | exact RV.cell1 hT rfl rfl rfl (by (exact Rd1.row (by (repeat (first | exact Pick.head | apply Pick.tail | apply Pick.app))) (by rfl))) | exact RV.cellN hT rfl rfl rfl (by (first | exact RdN.rowAll (by (repeat (first | exact Pick.head | apply Pick.tail | apply Pick.app))) | exact RdN.own (by (repeat (first | exact Pick.head | apply Pick.tail | apply Pick.app))))) (by (first | rfl | assumption | (simp; done) | omega)))) ?_
  exact ⟨rfl, fun w q => q.sup (by (repeat (first | exact Sup.refl | apply Sup.cons (by (repeat (first | exact Pick.head | apply Pick.tail | apply Pick.app))) | apply Sup.app | apply Sup.skip | apply Sup.skips)))⟩
theorem be64_take (x : BitVec 64) {k : Nat} (h : k < 8) : (be64 x).take (k + 1) = (be64 x).take k ++ [(((x >>> (8 * (7 - k))).toNat % 256 : Nat) : Int)] := by
  rw [List.take_add_one]
  simp [be64, h]
theorem rpad_spec (n : Nat) (hn : n ≤ 2305843009213693952) (l : List HProp) : Fc prog E 100 [.int .i64 (n : Int)].toArray l (fun v l' => ∃ a c, v = .slice a (padZ n + 9) c ∧ l' = own 5 1 v (padZ n + 9) (ints .u8 (shaPad n)) :: l) := by
  refine Fc.post ?_
  have hz : padZ n ≤ 63 := by unfold padZ; omega
  rw [show padZ n + 9 = 1 + padZ n + 8 by omega]
  obtain ⟨X, hX⟩ : ∃ X, BitVec.ofInt 64 (n : Int) <<< 3 = X := ⟨_, rfl⟩
  have hX8 : BitVec.ofInt 64 (n : Int) * 8#64 = X := by
    rw [← hX, show (8#64 : BitVec 64) = BitVec.twoPow 64 3 from rfl, BitVec.mul_twoPow_eq_shiftLeft]
  refine Fc.of_body (c := ?c) Try.func100 ?hb Try.ntmps100 ?hl ?_
  case hb => exact rfl
  case hl => exact rfl
  refine J.seq ?_
  refine J.region ?_
  refine JL.step (y_assign rfl) rfl rfl rfl ?_
  refine JL.nil ?_
  refine JE.then_normal ?_
  refine J.seq ?_
  refine J.seq ?_
  refine J.region ?_
  refine JL.step (y_move rfl) rfl rfl rfl (JL.step (y_lss rfl rfl) rfl rfl rfl ?_)
  refine JL.nil ?_
  refine JE.then_normal ?_
  refine J.cond_f rfl (by (first | rfl | assumption | (simp; done) | (simp; omega))) ?_
  refine J.skip ?_
  refine JE.then_normal ?_
  refine J.seq ?_
  refine J.region ?_
  refine JL.loud rfl (l_buildSliceP hT rfl rfl rfl rfl rfl rfl rfl (by (first | exact fill_one rfl (by first | assumption | rfl | (simp; done)) | rfl | simp)) rfl (fun b1 => ?_))
  refine JL.step (y_assign rfl) rfl rfl rfl ?_
  refine JL.nil ?_
  refine JE.then_normal ?_
  refine J.seq ?_
  refine J.block ?_
  refine J.loop (α := Nat × Value) (fun s => s.1 ≤ padZ n ∧ ∃ a c, s.2 = .slice a (1 + s.1) c) (fun s => [(0, .int .i64 n), (3, s.2)]) (fun s => own 5 1 s.2 (1 + s.1) (ints .u8 (128 :: List.replicate s.1 0)) :: l) (fun s => padZ n - s.1) (0, _) ⟨by simp, _, _, rfl⟩ ⟨rfl, rfl, trivial⟩ (fun w q => q.ownAll (m := 1) (size := 1) (by unfold maxLen; omega) rfl) ?_
  rintro ⟨z, v⟩ ⟨hzl, a, c, hv⟩
  dsimp only at hzl hv ⊢
  subst hv
  refine J.seq ?_
  refine J.seq ?_
  refine J.region ?_
  refine JL.step (y_move rfl) rfl rfl rfl (JL.step (y_move rfl) rfl rfl rfl (JL.step (y_len_slice hT rfl rfl rfl) rfl rfl rfl ?_))
  refine JL.step (y_add (m := ((n + (1 + z) : Nat) : Int)) rfl rfl (by rw [show ((n : Nat) : Int) + ((1 + z : Nat) : Int) = ((n + (1 + z) : Nat) : Int) by omega]; exact wrap_i64 (by omega) (by omega))) rfl rfl rfl ?_
  refine JL.step (y_add (m := ((n + (1 + z) + 8 : Nat) : Int)) rfl rfl (by rw [show ((n + (1 + z) : Nat) : Int) + 8 = ((n + (1 + z) + 8 : Nat) : Int) by omega]; exact wrap_i64 (by omega) (by omega))) rfl rfl rfl ?_
  refine JL.step (y_rem (m := (((n + (1 + z) + 8) % 64 : Nat) : Int)) rfl rfl (by decide) (by rw [Int.tmod_eq_emod_of_nonneg (by omega)]; omega)) rfl rfl rfl ?_
  refine JL.step (y_neq rfl rfl) rfl rfl rfl ?_
  refine JL.nil ?_
  refine JE.then_normal ?_
  first | apply J.cond_dec rfl | apply J.cond rfl
  case' ht =>
    intro h
    try (first | (exfalso; omega) | (cases h; done) | (exfalso; simp at h; done) | subst h)
    all_goals
      refine J.skip ?_
  case' hf =>
    intro h
    try (first | (exfalso; omega) | (cases h; done) | (exfalso; simp at h; done) | subst h)
    all_goals
      refine J.exit ?_
      refine JE.then_exit ?_
      refine JE.then_exit ?_
      refine JE.block_exit ?_
      refine JE.then_normal ?_
      refine J.seq ?_
      have hzz : z = padZ n := by unfold padZ at hzl ⊢; omega
      subst hzz
      refine J.region ?_
      refine JL.step (y_move rfl) rfl rfl rfl ?_
      refine JL.step ((by first | exact y_convToQ hT rfl rfl rfl rfl | exact y_conv hT rfl rfl rfl rfl (by (first | exact wrap_i64 (by omega) (by omega) | rfl)))) rfl rfl rfl ?_
      refine JL.step (y_mulQ (b := 8#64) rfl rfl) rfl rfl rfl ?_
      rw [hX8]
      refine JL.step (y_assign rfl) rfl rfl rfl ?_
      refine JL.nil ?_
      refine JE.then_normal ?_
      refine J.seq ?_
      refine J.seq ?_
      refine J.region ?_
      refine JL.step (y_assign rfl) rfl rfl rfl ?_
      refine JL.nil ?_
      refine JE.then_normal ?_
      refine J.block ?_
      refine J.loop (α := Nat × Value) (fun s => s.1 ≤ 8 ∧ ∃ a c, s.2 = .slice a (1 + padZ n + s.1) c) (fun s => [(3, s.2), (4, Q X), (5, .int .i64 (7 - (s.1 : Int)))]) (fun s => own 5 1 s.2 (1 + padZ n + s.1) (ints .u8 (128 :: List.replicate (padZ n) 0 ++ (be64 X).take s.1)) :: l) (fun s => 8 - s.1) (0, .slice a (1 + padZ n) c) ⟨by simp, _, _, rfl⟩ ⟨rfl, rfl, rfl, trivial⟩ (fun w q => by simpa using q) ?_
      rintro ⟨k, v⟩ ⟨hk, a, c, hv⟩
      dsimp only at hk hv ⊢
      subst hv
      refine J.seq ?_
      refine J.seq ?_
      refine J.region ?_
      refine JL.step (y_move rfl) rfl rfl rfl (JL.step (y_geq rfl rfl) rfl rfl rfl ?_)
      refine JL.nil ?_
      refine JE.then_normal ?_
      first | apply J.cond_dec rfl | apply J.cond rfl
      case' ht =>
        intro h
        try (first | (exfalso; omega) | (cases h; done) | (exfalso; simp at h; done) | subst h)
        all_goals
          refine J.skip ?_
      case' hf =>
        intro h
        try (first | (exfalso; omega) | (cases h; done) | (exfalso; simp at h; done) | subst h)
        all_goals
          refine J.exit ?_
          refine JE.then_exit ?_
          refine JE.then_exit ?_
          refine JE.block_exit ?_
          refine JE.then_normal ?_
          refine J.seq ?_
          obtain rfl : k = 8 := by omega
          refine J.region ?_
          refine JL.step (y_move rfl) rfl rfl rfl (JL.step (y_assign rfl) rfl rfl rfl ?_)
          refine JL.nil ?_
          refine JE.then_normal ?_
          refine J.ret ?_
          refine JE.ret1 (.inl rfl) rfl rfl (by (first | exact RV.tmp rfl | exact RV.cell1 hT rfl rfl rfl (by (exact Rd1.row (by (repeat (first | exact Pick.head | apply Pick.tail | apply Pick.app))) (by rfl))) | exact RV.cellN hT rfl rfl rfl (by (first | exact RdN.rowAll (by (repeat (first | exact Pick.head | apply Pick.tail | apply Pick.app))) | exact RdN.own (by (repeat (first | exact Pick.head | apply Pick.tail | apply Pick.app))))) (by (first | rfl | assumption | (simp; done) | omega)))) ?_
          refine ⟨_, fun w q => ?_, a, c, rfl, rfl⟩
          have e : shaPad n = 128 :: List.replicate (padZ n) 0 ++ (be64 X).take 8 := by
            rw [shaPad, hX, List.take_of_length_le (by rw [be64_length]; exact Nat.le_refl _)]
            rfl
          rw [e]
          exact q.sup (by (repeat (first | exact Sup.refl | apply Sup.cons (by (repeat (first | exact Pick.head | apply Pick.tail | apply Pick.app))) | apply Sup.app | apply Sup.skip | apply Sup.skips)))
      all_goals refine JE.then_normal ?_
      all_goals
        refine J.seq ?_
        refine J.block ?_
        refine J.region ?_
        refine JL.step (y_move rfl) rfl rfl rfl (JL.step (y_move rfl) rfl rfl rfl (JL.step (y_move rfl) rfl rfl rfl ?_))
        refine JL.step (y_mul (m := ((8 * (7 - k) : Nat) : Int)) rfl rfl (by rw [show (8 : Int) * (7 - (k : Int)) = ((8 * (7 - k) : Nat) : Int) by omega]; exact wrap_i64 (by omega) (by omega))) rfl rfl rfl ?_
        refine JL.step ((by first | exact y_shrQ rfl rfl (by (first | omega | exact Nat.le_of_ble_eq_true rfl | decide | (simp; omega))) (by (first | omega | exact Nat.le_of_ble_eq_true rfl | decide | (simp; omega))) | exact y_shr rfl rfl (by (first | omega | exact Nat.le_of_ble_eq_true rfl | decide | (simp; omega))) (by rfl))) rfl rfl rfl ?_
        refine JL.step ((by first | exact y_convOfQ hT rfl rfl rfl rfl | exact y_conv hT rfl rfl rfl rfl (by (first | exact wrap_i64 (by omega) (by omega) | rfl)))) rfl rfl rfl ?_
        refine JL.loud rfl (l_buildSliceP hT rfl rfl rfl rfl rfl rfl rfl (by (first | exact fill_one rfl (by first | assumption | rfl | (simp; done)) | rfl | simp)) rfl (fun b2 => ?_))
        refine JL.loud rfl (l_append hT rfl rfl rfl rfl rfl rfl rfl rfl (by (repeat (first | exact Pick.head | apply Pick.tail | apply Pick.app))) (by (first | exact RdN.rowAll (by (repeat (first | exact Pick.head | apply Pick.tail | apply Pick.app))) | exact RdN.own (by (repeat (first | exact Pick.head | apply Pick.tail | apply Pick.app))))) (by (first | rfl | assumption | (simp; done) | omega)) (by (first | assumption | exact ones_of rfl | exact encW_one _ | exact encB_one _ | (intro u hu; simp at hu; rcases hu with rfl | rfl <;> rfl) | (intro u hu; simp at hu; subst hu; rfl) | simp)) (by (exact Nat.le_trans (Nat.mul_le_mul_left _ (Nat.le_of_ble_eq_true rfl : _ ≤ 4096)) (by omega))) (by (first | omega | exact Nat.le_of_ble_eq_true rfl | decide | (simp; omega))) rfl (fun ab3 cb3 hb3 => ?_))
        refine JL.step (y_assign rfl) rfl rfl rfl ?_
        refine JL.nil ?_
        refine JE.block_normal ?_
        refine JE.then_normal ?_
        refine J.region ?_
        refine JL.step (y_move rfl) rfl rfl rfl ?_
        refine JL.step (y_sub rfl rfl (by (first | exact wrap_i64 (by omega) (by omega) | rfl))) rfl rfl rfl ?_
        refine JL.step (y_assign rfl) rfl rfl rfl ?_
        refine JL.nil ?_
      all_goals
        refine JE.round (s := (k, .slice a (1 + padZ n + k) c)) (k + 1, _) ⟨by dsimp only; omega, _, _, rfl⟩ ⟨rfl, rfl, by rw [show (7 : Int) - ((k + 1 : Nat) : Int) = 7 - (k : Int) - 1 by omega]; rfl, trivial⟩ (fun w q => ?_) (by dsimp only; omega)
        have e : ints .u8 (128 :: List.replicate (padZ n) 0 ++ (be64 X).take (k + 1)) = ints .u8 (128 :: List.replicate (padZ n) 0 ++ (be64 X).take k) ++ [.int .u8 (((X >>> (8 * (7 - k))).toNat % 256 : Nat) : Int)] := by
          rw [be64_take X (by omega)]
          simp [ints]
        dsimp only
        rw [e]
        exact q.sup (by (repeat (first | exact Sup.refl | apply Sup.cons (by (repeat (first | exact Pick.head | apply Pick.tail | apply Pick.app))) | apply Sup.app | apply Sup.skip | apply Sup.skips)))
  all_goals refine JE.then_normal ?_
  all_goals
    refine J.block ?_
    refine J.region ?_
    refine JL.step (y_move rfl) rfl rfl rfl ?_
    refine JL.loud rfl (l_buildSliceP hT rfl rfl rfl rfl rfl rfl rfl (by (first | exact fill_one rfl (by first | assumption | rfl | (simp; done)) | rfl | simp)) rfl (fun b4 => ?_))
    refine JL.loud rfl (l_append hT rfl rfl rfl rfl rfl rfl rfl rfl (by (repeat (first | exact Pick.head | apply Pick.tail | apply Pick.app))) (by (first | exact RdN.rowAll (by (repeat (first | exact Pick.head | apply Pick.tail | apply Pick.app))) | exact RdN.own (by (repeat (first | exact Pick.head | apply Pick.tail | apply Pick.app))))) (by (first | rfl | assumption | (simp; done) | omega)) (by (first | assumption | exact ones_of rfl | exact encW_one _ | exact encB_one _ | (intro u hu; simp at hu; rcases hu with rfl | rfl <;> rfl) | (intro u hu; simp at hu; subst hu; rfl) | simp)) (by (exact Nat.le_trans (Nat.mul_le_mul_left _ (Nat.le_of_ble_eq_true rfl : _ ≤ 4096)) (by omega))) (by (first | omega | exact Nat.le_of_ble_eq_true rfl | decide | (simp; omega))) rfl (fun ab5 cb5 hb5 => ?_))
    refine JL.step (y_assign rfl) rfl rfl rfl ?_
    refine JL.nil ?_
    refine JE.block_normal ?_
  all_goals
    refine JE.round (s := (z, .slice a (1 + z) c)) (z + 1, _) ⟨by dsimp only; have h' := hzl; unfold padZ at h' ⊢; omega, _, _, rfl⟩ ⟨rfl, rfl, trivial⟩ (fun w q => ?_) (by dsimp only; have h' := hzl; unfold padZ at h' ⊢; omega)
    have e : ints .u8 (128 :: List.replicate (z + 1) 0) = ints .u8 (128 :: List.replicate z 0) ++ [.int .u8 0] := by
      rw [List.replicate_succ']; simp [ints]
    dsimp only
    rw [e]
    exact q.sup (by (repeat (first | exact Sup.refl | apply Sup.cons (by (repeat (first | exact Pick.head | apply Pick.tail | apply Pick.app))) | apply Sup.app | apply Sup.skip | apply Sup.skips)))
end Go.Proofs.Ytilifeeddpkclaa
