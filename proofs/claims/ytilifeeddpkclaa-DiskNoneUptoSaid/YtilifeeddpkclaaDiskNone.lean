/-
  hollowtreelaw10.DiskNone returns true for every input, and leaves its input as it was. Condition: the input is of bulk at most 1048576 (the statement's second form).
-/
import Derived.Test.YtilifeeddpkclaaTop1
namespace Go.Proofs.Ytilifeeddpkclaa
open Go Go.SL
section
attribute [local irreducible] J JL JE JM LS Y Fc RV Code.wp wpList Code.wpIn wpListIn
attribute [local irreducible] Yc
variable (E : World)
theorem ready_nil (i : Int) (l : List HProp) : Fc prog E 61 [Value.pointer none, .int .i64 i].toArray l (fun v l' => v = .int .i64 1 ∧ l' = l) := by
  refine Fc.of_body (c := ?c) Try.func61 ?hb Try.ntmps61 ?hl ?_
  case hb => exact rfl
  case hl => exact rfl
  refine J.seq ?_
  refine J.region ?_
  refine JL.step (y_assign rfl) rfl rfl rfl ?_
  refine JL.nil ?_
  refine JE.then_normal ?_
  refine J.seq ?_
  refine J.block ?_
  refine J.seq ?_
  refine J.region ?_
  refine JL.step (y_move rfl) rfl rfl rfl (JL.step (y_ptr_eq_nil hT rfl rfl rfl rfl) rfl rfl rfl (JL.step (y_assign rfl) rfl rfl rfl ?_))
  refine JL.nil ?_
  refine JE.then_normal ?_
  first | apply J.cond_dec rfl | apply J.cond rfl
  case' ht =>
    intro h
    try (first | (exfalso; omega) | (cases h; done) | (exfalso; simp at h; done) | subst h)
    all_goals
      refine J.seq ?_
      refine J.region ?_
      refine JL.step (y_assign rfl) rfl rfl rfl ?_
      refine JL.nil ?_
      refine JE.then_normal ?_
      refine J.ret ?_
      refine JE.block_ret ?_
      refine JE.then_ret ?_
      refine JE.ret1 (.inl rfl) rfl rfl (by (first | exact RV.tmp rfl | exact RV.cell1 hT rfl rfl rfl (by (exact Rd1.row (by (repeat (first | exact Pick.head | apply Pick.tail))) (by rfl))) | exact RV.cellN hT rfl rfl rfl (by (first | exact RdN.rowAll (by (repeat (first | exact Pick.head | apply Pick.tail))) | exact RdN.own (by (repeat (first | exact Pick.head | apply Pick.tail))))) (by (first | rfl | assumption | (simp; done) | omega)))) ?_
      exact ⟨rfl, rfl⟩
  case' hf =>
    intro h
    try (first | (exfalso; omega) | (cases h; done) | (exfalso; simp at h; done) | subst h)
    all_goals
      refine J.seq ?_
      refine J.region ?_
      refine JL.step (y_move rfl) rfl rfl rfl ?_
      refine JL.step ((by first | exact y_nilCheck rfl | exact y_nilCheckF rfl | exact y_nilCheckY rfl)) rfl rfl rfl ?_
      refine JL.step (y_fieldAddr hT rfl rfl rfl rfl rfl rfl) rfl rfl rfl ?_
      refine JL.step (y_load1 hT rfl rfl rfl (by (exact Rd1.row (by (repeat (first | exact Pick.head | apply Pick.tail))) (by rfl)))) rfl rfl rfl ?_
      refine JL.step (y_assign rfl) rfl rfl rfl ?_
      refine JL.nil ?_
      refine JE.then_normal ?_
      first | apply J.cond_dec rfl | apply J.cond rfl
      case' ht =>
        intro h
        try (first | (exfalso; omega) | (cases h; done) | (exfalso; simp at h; done) | subst h)
        all_goals
          refine J.seq ?_
          refine J.region ?_
          refine JL.step (y_assign rfl) rfl rfl rfl ?_
          refine JL.nil ?_
          refine JE.then_normal ?_
          refine J.ret ?_
          refine JE.block_ret ?_
          refine JE.then_ret ?_
          refine JE.ret1 (.inl rfl) rfl rfl (by (first | exact RV.tmp rfl | exact RV.cell1 hT rfl rfl rfl (by (exact Rd1.row (by (repeat (first | exact Pick.head | apply Pick.tail))) (by rfl))) | exact RV.cellN hT rfl rfl rfl (by (first | exact RdN.rowAll (by (repeat (first | exact Pick.head | apply Pick.tail))) | exact RdN.own (by (repeat (first | exact Pick.head | apply Pick.tail))))) (by (first | rfl | assumption | (simp; done) | omega)))) ?_
          exact ⟨rfl, rfl⟩
      case' hf =>
        intro h
        try (first | (exfalso; omega) | (cases h; done) | (exfalso; simp at h; done) | subst h)
        all_goals
          refine J.seq ?_
          refine J.region ?_
          refine JL.step (y_move rfl) rfl rfl rfl (JL.step (y_lss rfl rfl) rfl rfl rfl (JL.step (y_move rfl) rfl rfl rfl ?_))
          all_goals (first | (refine JL.gsplit_dec rfl rfl rfl (fun h => ?_) (fun h => ?_) <;> try (first | (exfalso; omega) | exact absurd rfl h)) | (refine JL.gsplit rfl rfl rfl (fun h => ?_) (fun h => ?_) <;> try (first | cases h | (exfalso; simp at h; done))))
          all_goals (first | refine JL.gskip rfl rfl rfl rfl rfl rfl ?_ | refine JL.gstep rfl rfl rfl (y_move rfl) rfl rfl ?_)
          all_goals (first | refine JL.gskip rfl rfl rfl rfl rfl rfl ?_ | refine JL.gstep rfl rfl rfl (y_move rfl) rfl rfl ?_)
          all_goals (first | refine JL.gskip rfl rfl rfl rfl rfl rfl ?_ | refine JL.gstep rfl rfl rfl ((by first | exact y_nilCheck rfl | exact y_nilCheckF rfl | exact y_nilCheckY rfl)) rfl rfl ?_)
          all_goals (first | refine JL.gskip rfl rfl rfl rfl rfl rfl ?_ | refine JL.gstep rfl rfl rfl (y_fieldAddr hT rfl rfl rfl rfl rfl rfl) rfl rfl ?_)
          all_goals (first | refine JL.gskip rfl rfl rfl rfl rfl rfl ?_ | refine JL.gstep rfl rfl rfl (y_load1 hT rfl rfl rfl (by (exact Rd1.row (by (repeat (first | exact Pick.head | apply Pick.tail))) (by rfl)))) rfl rfl ?_)
          all_goals (first | refine JL.gskip rfl rfl rfl rfl rfl rfl ?_ | refine JL.gstep rfl rfl rfl (y_len_slice hT rfl rfl rfl) rfl rfl ?_)
          all_goals (first | refine JL.gskip rfl rfl rfl rfl rfl rfl ?_ | refine JL.gstep rfl rfl rfl (y_geq rfl rfl) rfl rfl ?_)
          all_goals (refine JL.step (y_pick rfl rfl rfl) rfl rfl rfl ?_)
          all_goals (refine JL.step (y_assign rfl) rfl rfl rfl ?_)
          all_goals refine JL.nil ?_
          all_goals refine JE.then_normal ?_
          all_goals
            first | apply J.cond_dec rfl | apply J.cond rfl
            case' ht =>
              intro h
              try (first | (exfalso; omega) | (cases h; done) | (exfalso; simp at h; done) | subst h)
              all_goals
                refine J.seq ?_
                refine J.region ?_
                refine JL.step (y_assign rfl) rfl rfl rfl ?_
                refine JL.nil ?_
                refine JE.then_normal ?_
                refine J.ret ?_
                refine JE.block_ret ?_
                refine JE.then_ret ?_
                refine JE.ret1 (.inl rfl) rfl rfl (by (first | exact RV.tmp rfl | exact RV.cell1 hT rfl rfl rfl (by (exact Rd1.row (by (repeat (first | exact Pick.head | apply Pick.tail))) (by rfl))) | exact RV.cellN hT rfl rfl rfl (by (first | exact RdN.rowAll (by (repeat (first | exact Pick.head | apply Pick.tail))) | exact RdN.own (by (repeat (first | exact Pick.head | apply Pick.tail))))) (by (first | rfl | assumption | (simp; done) | omega)))) ?_
                exact ⟨rfl, rfl⟩
            case' hf =>
              intro h
              try (first | (exfalso; omega) | (cases h; done) | (exfalso; simp at h; done) | subst h)
              all_goals
                refine J.skip ?_
  all_goals refine JE.block_normal ?_
  all_goals refine JE.then_normal ?_
  all_goals
    refine J.seq ?_
    refine J.region ?_
    refine JL.step (y_assign rfl) rfl rfl rfl ?_
    refine JL.nil ?_
    refine JE.then_normal ?_
    refine J.ret ?_
    refine JE.ret1 (.inl rfl) rfl rfl (by (first | exact RV.tmp rfl | exact RV.cell1 hT rfl rfl rfl (by (exact Rd1.row (by (repeat (first | exact Pick.head | apply Pick.tail))) (by rfl))) | exact RV.cellN hT rfl rfl rfl (by (first | exact RdN.rowAll (by (repeat (first | exact Pick.head | apply Pick.tail))) | exact RdN.own (by (repeat (first | exact Pick.head | apply Pick.tail))))) (by (first | rfl | assumption | (simp; done) | omega)))) ?_
    exact ⟨rfl, rfl⟩
theorem read_nil (i : Int) (l : List HProp) : Fc prog E 27 [Value.pointer none, .int .i64 i].toArray l (fun v l' => v = .tuple #[.agg (encB zeroB).toArray, .int .i64 1] ∧ l' = l) := by
  refine Fc.eqs ?_
  rw [encB_zero]
  refine Fc.of_bodyM (c := ?c) Try.func27 ?hb Try.ntmps27 ?hl ?_
  case hb => exact rfl
  case hl => exact rfl
  refine J.seq ?_
  refine J.region ?_
  refine JL.loud rfl (l_box rfl (by (first | rfl | simp)) rfl (fun b1 => ?_))
  refine JL.loud rfl (l_alloc hT rfl rfl (by (first | rfl | simp)) rfl (fun b2 => ?_))
  refine JL.loud rfl (l_alloc hT rfl rfl (by (first | rfl | simp)) rfl (fun b3 => ?_))
  refine JL.nil ?_
  refine JE.then_normal ?_
  refine J.seq ?_
  refine J.seq ?_
  refine J.region ?_
  refine JL.step (y_move rfl) rfl rfl rfl ?_
  refine JL.step (y_load1 hT rfl rfl rfl (by (exact Rd1.row (by (repeat (first | exact Pick.head | apply Pick.tail))) (by rfl)))) rfl rfl rfl ?_
  refine JL.loud rfl (l_callF e61 rfl rfl (ready_nil E i _) ?_)
  rintro _ _ ⟨rfl, rfl⟩
  refine JL.step (y_assign rfl) rfl rfl rfl ?_
  refine JL.nil ?_
  refine JE.then_normal ?_
  refine J.seq ?_
  refine J.region ?_
  refine JL.step (y_move rfl) rfl rfl rfl (JL.step (y_neq rfl rfl) rfl rfl rfl ?_)
  refine JL.nil ?_
  refine JE.then_normal ?_
  refine J.cond_t rfl (by (first | rfl | assumption | (simp; done) | (simp; omega))) ?_
  refine J.seq ?_
  refine J.region ?_
  refine JL.step (y_build_arr0 hT rfl rfl rfl rfl) rfl rfl rfl (JL.step (y_move rfl) rfl rfl rfl ?_)
  refine JL.loud rfl (l_storeAll hT rfl rfl rfl (by (first | rfl | assumption | (simp; done) | omega)) (by (first | assumption | exact encW_one _ | exact encB_one _ | (intro u hu; simp at hu; rcases hu with rfl | rfl <;> rfl) | (intro u hu; simp at hu; subst hu; rfl) | simp)) (by (repeat (first | exact Pick.head | apply Pick.tail))) (by (first | rfl | assumption | (simp; done) | omega)) ?_)
  refine JL.loud rfl (l_store1 hT rfl rfl rfl rfl rfl (by (repeat (first | exact Pick.head | apply Pick.tail))) (by (first | omega | exact Nat.le_of_ble_eq_true rfl | decide | (simp; omega))) ?_)
  refine JL.nil ?_
  refine JE.then_normal ?_
  refine J.ret ?_
  refine JE.then_ret ?_
  first | refine JE.unmark (.inl rfl) rfl (by (repeat (first | exact Pick.head | apply Pick.tail))) ?_ | refine JE.nomark (.inl rfl) rfl ?_
  refine JE.ret2 (.inl rfl) rfl rfl (by (first | exact RV.tmp rfl | exact RV.cell1 hT rfl rfl rfl (by (exact Rd1.row (by (repeat (first | exact Pick.head | apply Pick.tail))) (by rfl))) | exact RV.cellN hT rfl rfl rfl (by (first | exact RdN.rowAll (by (repeat (first | exact Pick.head | apply Pick.tail))) | exact RdN.own (by (repeat (first | exact Pick.head | apply Pick.tail))))) (by (first | rfl | assumption | (simp; done) | omega)))) (by (first | exact RV.tmp rfl | exact RV.cell1 hT rfl rfl rfl (by (exact Rd1.row (by (repeat (first | exact Pick.head | apply Pick.tail))) (by rfl))) | exact RV.cellN hT rfl rfl rfl (by (first | exact RdN.rowAll (by (repeat (first | exact Pick.head | apply Pick.tail))) | exact RdN.own (by (repeat (first | exact Pick.head | apply Pick.tail))))) (by (first | rfl | assumption | (simp; done) | omega)))) ?_
  exact ⟨rfl, fun w q => q.sup (by (repeat (first | exact Sup.refl | apply Sup.cons (by (repeat (first | exact Pick.head | apply Pick.tail))) | apply Sup.skip)))⟩
theorem write_nil (i : Int) (b : Blk) (hb : b.length = 64) (l : List HProp) : Fc prog E 47 [Value.pointer none, .int .i64 i, .agg (encB b).toArray].toArray l (fun v l' => v = .int .i64 1 ∧ l' = l) := by
  refine Fc.eqs ?_
  refine Fc.of_body (c := ?c) Try.func47 ?hb Try.ntmps47 ?hl ?_
  case hb => exact rfl
  case hl => exact rfl
  refine J.seq ?_
  refine J.region ?_
  refine JL.loud rfl (l_box rfl (by (first | rfl | simp)) rfl (fun b1 => ?_))
  refine JL.loud rfl (l_box rfl (by (first | rfl | simp)) rfl (fun b2 => ?_))
  refine JL.loud rfl (l_box rfl (by (first | rfl | simp)) rfl (fun b3 => ?_))
  refine JL.step (y_assign rfl) rfl rfl rfl ?_
  refine JL.nil ?_
  refine JE.then_normal ?_
  refine J.seq ?_
  refine J.seq ?_
  refine J.region ?_
  refine JL.step (y_load1 hT rfl rfl rfl (by (exact Rd1.row (by (repeat (first | exact Pick.head | apply Pick.tail))) (by rfl)))) rfl rfl rfl ?_
  refine JL.step (y_load1 hT rfl rfl rfl (by (exact Rd1.row (by (repeat (first | exact Pick.head | apply Pick.tail))) (by rfl)))) rfl rfl rfl ?_
  refine JL.loud rfl (l_callF e61 rfl rfl (ready_nil E i _) ?_)
  rintro _ _ ⟨rfl, rfl⟩
  refine JL.step (y_assign rfl) rfl rfl rfl ?_
  refine JL.nil ?_
  refine JE.then_normal ?_
  refine J.seq ?_
  refine J.region ?_
  refine JL.step (y_move rfl) rfl rfl rfl (JL.step (y_neq rfl rfl) rfl rfl rfl ?_)
  refine JL.nil ?_
  refine JE.then_normal ?_
  refine J.cond_t rfl (by (first | rfl | assumption | (simp; done) | (simp; omega))) ?_
  refine J.seq ?_
  refine J.region ?_
  refine JL.step (y_move rfl) rfl rfl rfl (JL.step (y_assign rfl) rfl rfl rfl ?_)
  refine JL.nil ?_
  refine JE.then_normal ?_
  refine J.ret ?_
  refine JE.then_ret ?_
  refine JE.ret1 (.inl rfl) rfl rfl (by (first | exact RV.tmp rfl | exact RV.cell1 hT rfl rfl rfl (by (exact Rd1.row (by (repeat (first | exact Pick.head | apply Pick.tail))) (by rfl))) | exact RV.cellN hT rfl rfl rfl (by (first | exact RdN.rowAll (by (repeat (first | exact Pick.head | apply Pick.tail))) | exact RdN.own (by (repeat (first | exact Pick.head | apply Pick.tail))))) (by (first | rfl | assumption | (simp; done) | omega)))) ?_
  exact ⟨rfl, fun w q => q.sup (by (repeat (first | exact Sup.refl | apply Sup.cons (by (repeat (first | exact Pick.head | apply Pick.tail))) | apply Sup.skip)))⟩
theorem sync_nil (l : List HProp) : Fc prog E 32 [Value.pointer none].toArray l (fun v l' => v = .int .i64 1 ∧ l' = l) := by
  refine Fc.eqs ?_
  refine Fc.of_body (c := ?c) Try.func32 ?hb Try.ntmps32 ?hl ?_
  case hb => exact rfl
  case hl => exact rfl
  refine J.seq ?_
  refine J.region ?_
  refine JL.loud rfl (l_box rfl (by (first | rfl | simp)) rfl (fun b1 => ?_))
  refine JL.step (y_assign rfl) rfl rfl rfl ?_
  refine JL.nil ?_
  refine JE.then_normal ?_
  refine J.seq ?_
  refine J.seq ?_
  refine J.region ?_
  refine JL.step (y_load1 hT rfl rfl rfl (by (exact Rd1.row (by (repeat (first | exact Pick.head | apply Pick.tail))) (by rfl)))) rfl rfl rfl ?_
  refine JL.loud rfl (l_callF e61 rfl rfl (ready_nil E 0 _) ?_)
  rintro _ _ ⟨rfl, rfl⟩
  refine JL.step (y_assign rfl) rfl rfl rfl ?_
  refine JL.nil ?_
  refine JE.then_normal ?_
  refine J.seq ?_
  refine J.region ?_
  refine JL.step (y_move rfl) rfl rfl rfl (JL.step (y_neq rfl rfl) rfl rfl rfl ?_)
  refine JL.nil ?_
  refine JE.then_normal ?_
  refine J.cond_t rfl (by (first | rfl | assumption | (simp; done) | (simp; omega))) ?_
  refine J.seq ?_
  refine J.region ?_
  refine JL.step (y_move rfl) rfl rfl rfl (JL.step (y_assign rfl) rfl rfl rfl ?_)
  refine JL.nil ?_
  refine JE.then_normal ?_
  refine J.ret ?_
  refine JE.then_ret ?_
  refine JE.ret1 (.inl rfl) rfl rfl (by (first | exact RV.tmp rfl | exact RV.cell1 hT rfl rfl rfl (by (exact Rd1.row (by (repeat (first | exact Pick.head | apply Pick.tail))) (by rfl))) | exact RV.cellN hT rfl rfl rfl (by (first | exact RdN.rowAll (by (repeat (first | exact Pick.head | apply Pick.tail))) | exact RdN.own (by (repeat (first | exact Pick.head | apply Pick.tail))))) (by (first | rfl | assumption | (simp; done) | omega)))) ?_
  exact ⟨rfl, fun w q => q.sup (by (repeat (first | exact Sup.refl | apply Sup.cons (by (repeat (first | exact Pick.head | apply Pick.tail))) | apply Sup.skip)))⟩
theorem arm_nil (i : Int) (l : List HProp) : Fc prog E 29 [Value.pointer none, .int .i64 i].toArray l (fun v l' => v = .int .i64 1 ∧ l' = l) := by
  refine Fc.eqs ?_
  refine Fc.of_body (c := ?c) Try.func29 ?hb Try.ntmps29 ?hl ?_
  case hb => exact rfl
  case hl => exact rfl
  refine J.seq ?_
  refine J.region ?_
  refine JL.step (y_assign rfl) rfl rfl rfl ?_
  refine JL.nil ?_
  refine JE.then_normal ?_
  refine J.seq ?_
  refine J.seq ?_
  refine J.region ?_
  refine JL.step (y_move rfl) rfl rfl rfl ?_
  refine JL.loud rfl (l_callF e61 rfl rfl (ready_nil E 0 _) ?_)
  rintro _ _ ⟨rfl, rfl⟩
  refine JL.step (y_assign rfl) rfl rfl rfl ?_
  refine JL.nil ?_
  refine JE.then_normal ?_
  refine J.seq ?_
  refine J.region ?_
  refine JL.step (y_move rfl) rfl rfl rfl (JL.step (y_neq rfl rfl) rfl rfl rfl ?_)
  refine JL.nil ?_
  refine JE.then_normal ?_
  refine J.cond_t rfl (by (first | rfl | assumption | (simp; done) | (simp; omega))) ?_
  refine J.seq ?_
  refine J.region ?_
  refine JL.step (y_move rfl) rfl rfl rfl (JL.step (y_assign rfl) rfl rfl rfl ?_)
  refine JL.nil ?_
  refine JE.then_normal ?_
  refine J.ret ?_
  refine JE.then_ret ?_
  refine JE.ret1 (.inl rfl) rfl rfl (by (first | exact RV.tmp rfl | exact RV.cell1 hT rfl rfl rfl (by (exact Rd1.row (by (repeat (first | exact Pick.head | apply Pick.tail))) (by rfl))) | exact RV.cellN hT rfl rfl rfl (by (first | exact RdN.rowAll (by (repeat (first | exact Pick.head | apply Pick.tail))) | exact RdN.own (by (repeat (first | exact Pick.head | apply Pick.tail))))) (by (first | rfl | assumption | (simp; done) | omega)))) ?_
  exact ⟨rfl, fun w q => q.sup (by (repeat (first | exact Sup.refl | apply Sup.cons (by (repeat (first | exact Pick.head | apply Pick.tail))) | apply Sup.skip)))⟩
theorem crash_nil (v : Value) (hv : v.oneCell' = true) (l : List HProp) : Fc prog E 34 [Value.pointer none, v].toArray l (fun v l' => v = .int .i64 1 ∧ l' = l) := by
  have hvc : v.cells = [v].toArray := by cases v <;> simp_all [Value.cells, Value.oneCell']
  refine Fc.eqs ?_
  refine Fc.of_body (c := ?c) Try.func34 ?hb Try.ntmps34 ?hl ?_
  case hb => exact rfl
  case hl => exact rfl
  refine J.seq ?_
  refine J.region ?_
  refine JL.loud rfl (l_box rfl hvc rfl (fun b1 => ?_))
  refine JL.step (y_assign rfl) rfl rfl rfl ?_
  refine JL.nil ?_
  refine JE.then_normal ?_
  refine J.seq ?_
  refine J.seq ?_
  refine J.region ?_
  refine JL.step (y_move rfl) rfl rfl rfl (JL.step (y_ptr_eq_nil hT rfl rfl rfl rfl) rfl rfl rfl ?_)
  refine JL.nil ?_
  refine JE.then_normal ?_
  refine J.cond_t rfl (by (first | rfl | assumption | (simp; done) | (simp; omega))) ?_
  refine J.seq ?_
  refine J.region ?_
  refine JL.step (y_assign rfl) rfl rfl rfl ?_
  refine JL.nil ?_
  refine JE.then_normal ?_
  refine J.ret ?_
  refine JE.then_ret ?_
  refine JE.ret1 (.inl rfl) rfl rfl (by (first | exact RV.tmp rfl | exact RV.cell1 hT rfl rfl rfl (by (exact Rd1.row (by (repeat (first | exact Pick.head | apply Pick.tail))) (by rfl))) | exact RV.cellN hT rfl rfl rfl (by (first | exact RdN.rowAll (by (repeat (first | exact Pick.head | apply Pick.tail))) | exact RdN.own (by (repeat (first | exact Pick.head | apply Pick.tail))))) (by (first | rfl | assumption | (simp; done) | omega)))) ?_
  exact ⟨rfl, fun w q => q.sup (by (repeat (first | exact Sup.refl | apply Sup.cons (by (repeat (first | exact Pick.head | apply Pick.tail))) | apply Sup.skip)))⟩
theorem len_nil (l : List HProp) : Fc prog E 26 [Value.pointer none].toArray l (fun v l' => v = .int .i64 0 ∧ l' = l) := by
  refine Fc.of_body (c := ?c) Try.func26 ?hb Try.ntmps26 ?hl ?_
  case hb => exact rfl
  case hl => exact rfl
  refine J.seq ?_
  refine J.region ?_
  refine JL.step (y_assign rfl) rfl rfl rfl ?_
  refine JL.nil ?_
  refine JE.then_normal ?_
  refine J.seq ?_
  refine J.seq ?_
  refine J.region ?_
  refine JL.step (y_move rfl) rfl rfl rfl (JL.step (y_ptr_eq_nil hT rfl rfl rfl rfl) rfl rfl rfl ?_)
  refine JL.nil ?_
  refine JE.then_normal ?_
  refine J.cond_t rfl (by (first | rfl | assumption | (simp; done) | (simp; omega))) ?_
  refine J.seq ?_
  refine J.region ?_
  refine JL.step (y_assign rfl) rfl rfl rfl ?_
  refine JL.nil ?_
  refine JE.then_normal ?_
  refine J.ret ?_
  refine JE.then_ret ?_
  refine JE.ret1 (.inl rfl) rfl rfl (by (first | exact RV.tmp rfl | exact RV.cell1 hT rfl rfl rfl (by (exact Rd1.row (by (repeat (first | exact Pick.head | apply Pick.tail))) (by rfl))) | exact RV.cellN hT rfl rfl rfl (by (first | exact RdN.rowAll (by (repeat (first | exact Pick.head | apply Pick.tail))) | exact RdN.own (by (repeat (first | exact Pick.head | apply Pick.tail))))) (by (first | rfl | assumption | (simp; done) | omega)))) ?_
  exact ⟨rfl, rfl⟩
theorem pending_nil (l : List HProp) : Fc prog E 33 [Value.pointer none].toArray l (fun v l' => v = .slice none 0 0 ∧ l' = l) := by
  refine Fc.of_body (c := ?c) Try.func33 ?hb Try.ntmps33 ?hl ?_
  case hb => exact rfl
  case hl => exact rfl
  refine J.seq ?_
  refine J.region ?_
  refine JL.step (y_assign rfl) rfl rfl rfl ?_
  refine JL.nil ?_
  refine JE.then_normal ?_
  refine J.seq ?_
  refine J.seq ?_
  refine J.region ?_
  refine JL.step (y_move rfl) rfl rfl rfl (JL.step (y_ptr_eq_nil hT rfl rfl rfl rfl) rfl rfl rfl ?_)
  refine JL.nil ?_
  refine JE.then_normal ?_
  refine J.cond_t rfl (by (first | rfl | assumption | (simp; done) | (simp; omega))) ?_
  refine J.seq ?_
  refine J.region ?_
  refine JL.step (y_assign rfl) rfl rfl rfl ?_
  refine JL.nil ?_
  refine JE.then_normal ?_
  refine J.ret ?_
  refine JE.then_ret ?_
  refine JE.ret1 (.inl rfl) rfl rfl (by (first | exact RV.tmp rfl | exact RV.cell1 hT rfl rfl rfl (by (exact Rd1.row (by (repeat (first | exact Pick.head | apply Pick.tail))) (by rfl))) | exact RV.cellN hT rfl rfl rfl (by (first | exact RdN.rowAll (by (repeat (first | exact Pick.head | apply Pick.tail))) | exact RdN.own (by (repeat (first | exact Pick.head | apply Pick.tail))))) (by (first | rfl | assumption | (simp; done) | omega)))) ?_
  exact ⟨rfl, rfl⟩
theorem dead_nil (l : List HProp) : Fc prog E 31 [Value.pointer none].toArray l (fun v l' => v = .bool false ∧ l' = l) := by
  refine Fc.of_body (c := ?c) Try.func31 ?hb Try.ntmps31 ?hl ?_
  case hb => exact rfl
  case hl => exact rfl
  refine J.seq ?_
  refine J.region ?_
  refine JL.step (y_assign rfl) rfl rfl rfl ?_
  refine JL.nil ?_
  refine JE.then_normal ?_
  refine J.seq ?_
  refine J.region ?_
  refine JL.step (y_move rfl) rfl rfl rfl (JL.step (y_ptr_ne_nil hT rfl rfl rfl rfl) rfl rfl rfl (JL.step (y_move rfl) rfl rfl rfl ?_))
  all_goals (first | (refine JL.gsplit_dec rfl rfl rfl (fun h => ?_) (fun h => ?_) <;> try (first | (exfalso; omega) | exact absurd rfl h)) | (refine JL.gsplit rfl rfl rfl (fun h => ?_) (fun h => ?_) <;> try (first | cases h | (exfalso; simp at h; done))))
  all_goals (first | refine JL.gskip rfl rfl rfl rfl rfl rfl ?_ | refine JL.gstep rfl rfl rfl (y_move rfl) rfl rfl ?_)
  all_goals (first | refine JL.gskip rfl rfl rfl rfl rfl rfl ?_ | refine JL.gstep rfl rfl rfl ((by first | exact y_nilCheck rfl | exact y_nilCheckF rfl | exact y_nilCheckY rfl)) rfl rfl ?_)
  all_goals (first | refine JL.gskip rfl rfl rfl rfl rfl rfl ?_ | refine JL.gstep rfl rfl rfl (y_fieldAddr hT rfl rfl rfl rfl rfl rfl) rfl rfl ?_)
  all_goals (first | refine JL.gskip rfl rfl rfl rfl rfl rfl ?_ | refine JL.gstep rfl rfl rfl (y_load1 hT rfl rfl rfl (by (exact Rd1.row (by (repeat (first | exact Pick.head | apply Pick.tail))) (by rfl)))) rfl rfl ?_)
  all_goals (refine JL.step (y_pick rfl rfl rfl) rfl rfl rfl ?_)
  all_goals (refine JL.step (y_assign rfl) rfl rfl rfl ?_)
  all_goals refine JL.nil ?_
  all_goals refine JE.then_normal ?_
  all_goals
    refine J.ret ?_
    refine JE.ret1 (.inl rfl) rfl rfl (by (first | exact RV.tmp rfl | exact RV.cell1 hT rfl rfl rfl (by (exact Rd1.row (by (repeat (first | exact Pick.head | apply Pick.tail))) (by rfl))) | exact RV.cellN hT rfl rfl rfl (by (first | exact RdN.rowAll (by (repeat (first | exact Pick.head | apply Pick.tail))) | exact RdN.own (by (repeat (first | exact Pick.head | apply Pick.tail))))) (by (first | rfl | assumption | (simp; done) | omega)))) ?_
    exact ⟨rfl, rfl⟩
theorem ops_nil (l : List HProp) : Fc prog E 30 [Value.pointer none].toArray l (fun v l' => v = .int .i64 0 ∧ l' = l) := by
  refine Fc.of_body (c := ?c) Try.func30 ?hb Try.ntmps30 ?hl ?_
  case hb => exact rfl
  case hl => exact rfl
  refine J.seq ?_
  refine J.region ?_
  refine JL.step (y_assign rfl) rfl rfl rfl ?_
  refine JL.nil ?_
  refine JE.then_normal ?_
  refine J.seq ?_
  refine J.seq ?_
  refine J.region ?_
  refine JL.step (y_move rfl) rfl rfl rfl (JL.step (y_ptr_eq_nil hT rfl rfl rfl rfl) rfl rfl rfl ?_)
  refine JL.nil ?_
  refine JE.then_normal ?_
  refine J.cond_t rfl (by (first | rfl | assumption | (simp; done) | (simp; omega))) ?_
  refine J.seq ?_
  refine J.region ?_
  refine JL.step (y_assign rfl) rfl rfl rfl ?_
  refine JL.nil ?_
  refine JE.then_normal ?_
  refine J.ret ?_
  refine JE.then_ret ?_
  refine JE.ret1 (.inl rfl) rfl rfl (by (first | exact RV.tmp rfl | exact RV.cell1 hT rfl rfl rfl (by (exact Rd1.row (by (repeat (first | exact Pick.head | apply Pick.tail))) (by rfl))) | exact RV.cellN hT rfl rfl rfl (by (first | exact RdN.rowAll (by (repeat (first | exact Pick.head | apply Pick.tail))) | exact RdN.own (by (repeat (first | exact Pick.head | apply Pick.tail))))) (by (first | rfl | assumption | (simp; done) | omega)))) ?_
  exact ⟨rfl, rfl⟩
theorem copy_nil (l : List HProp) : Fc prog E 36 [Value.pointer none].toArray l (fun v l' => v = .pointer none ∧ l' = l) := by
  refine Fc.of_body (c := ?c) Try.func36 ?hb Try.ntmps36 ?hl ?_
  case hb => exact rfl
  case hl => exact rfl
  refine J.seq ?_
  refine J.region ?_
  refine JL.step (y_assign rfl) rfl rfl rfl ?_
  refine JL.nil ?_
  refine JE.then_normal ?_
  refine J.seq ?_
  refine J.seq ?_
  refine J.region ?_
  refine JL.step (y_move rfl) rfl rfl rfl (JL.step (y_ptr_eq_nil hT rfl rfl rfl rfl) rfl rfl rfl ?_)
  refine JL.nil ?_
  refine JE.then_normal ?_
  refine J.cond_t rfl (by (first | rfl | assumption | (simp; done) | (simp; omega))) ?_
  refine J.seq ?_
  refine J.region ?_
  refine JL.step (y_assign rfl) rfl rfl rfl ?_
  refine JL.nil ?_
  refine JE.then_normal ?_
  refine J.ret ?_
  refine JE.then_ret ?_
  refine JE.ret1 (.inl rfl) rfl rfl (by (first | exact RV.tmp rfl | exact RV.cell1 hT rfl rfl rfl (by (exact Rd1.row (by (repeat (first | exact Pick.head | apply Pick.tail))) (by rfl))) | exact RV.cellN hT rfl rfl rfl (by (first | exact RdN.rowAll (by (repeat (first | exact Pick.head | apply Pick.tail))) | exact RdN.own (by (repeat (first | exact Pick.head | apply Pick.tail))))) (by (first | rfl | assumption | (simp; done) | omega)))) ?_
  exact ⟨rfl, rfl⟩
theorem does_nil (o : OpA) (r : List HProp) (ho4 : o.Ok r ∧ o.bits.length ≤ 60000000000) :
    Fc prog E 23 [Value.pointer none, .agg (encO o).toArray].toArray r (fun v l' => v = .tuple #[.agg (encB zeroB).toArray, .int .i64 1] ∧ l' = r) := by
  refine Fc.eqs ?_
  have hk := o.k_range
  rw [encB_zero]
  refine Fc.of_body (c := ?c) Try.func23 ?hb Try.ntmps23 ?hl ?_
  case hb => exact rfl
  case hl => exact rfl
  refine J.seq ?_
  refine J.region ?_
  refine JL.loud rfl (l_box rfl (by (first | rfl | simp)) rfl (fun b1 => ?_))
  refine JL.loud rfl (l_alloc hT rfl rfl (by (first | rfl | simp)) rfl (fun b2 => ?_))
  refine JL.step (y_assign rfl) rfl rfl rfl ?_
  refine JL.nil ?_
  refine JE.then_normal ?_
  refine J.seq ?_
  refine J.seq ?_
  refine J.region ?_
  refine JL.step (y_loadN hT rfl rfl rfl (by (first | exact RdN.rowAll (by (repeat (first | exact Pick.head | apply Pick.tail))) | exact RdN.own (by (repeat (first | exact Pick.head | apply Pick.tail))))) (by (first | rfl | assumption | (simp; done) | omega))) rfl rfl rfl ?_
  refine JL.loud rfl (l_callF e18 rfl rfl (kind_spec E o _) ?_)
  rintro _ _ ⟨rfl, rfl⟩
  refine JL.nil ?_
  refine JE.then_normal ?_
  refine J.block ?_
  refine J.seq ?_
  refine J.region ?_
  refine JL.step (y_eql rfl rfl) rfl rfl rfl (JL.step (y_assign rfl) rfl rfl rfl ?_)
  refine JL.nil ?_
  refine JE.then_normal ?_
  first | apply J.cond_dec rfl | apply J.cond rfl
  case' ht =>
    intro h
    try (first | (exfalso; omega) | (cases h; done) | (exfalso; simp at h; done) | subst h)
    all_goals
      refine J.seq ?_
      refine J.region ?_
      refine JL.step (y_move rfl) rfl rfl rfl (JL.step (y_fieldAddr hT rfl rfl rfl rfl rfl rfl) rfl rfl rfl ?_)
      refine JL.step (y_load1 hT rfl rfl rfl (by (exact Rd1.row (by (repeat (first | exact Pick.head | apply Pick.tail))) (by rfl)))) rfl rfl rfl ?_
      refine JL.loud rfl (l_callF e27 rfl rfl (read_nil E o.at_ _) ?_)
      rintro _ _ ⟨rfl, rfl⟩
      refine JL.step (y_extract rfl rfl) rfl rfl rfl (JL.step (y_extract rfl rfl) rfl rfl rfl ?_)
      refine JL.loud rfl (l_storeAll hT rfl rfl rfl (by (first | rfl | assumption | (simp; done) | omega)) (by (first | assumption | exact encW_one _ | exact encB_one _ | (intro u hu; simp at hu; rcases hu with rfl | rfl <;> rfl) | (intro u hu; simp at hu; subst hu; rfl) | simp)) (by (repeat (first | exact Pick.head | apply Pick.tail))) (by (first | rfl | assumption | (simp; done) | omega)) ?_)
      refine JL.step (y_assign rfl) rfl rfl rfl ?_
      refine JL.nil ?_
      refine JE.then_normal ?_
      refine J.ret ?_
      refine JE.block_ret ?_
      refine JE.then_ret ?_
      refine JE.ret2 (.inl rfl) rfl rfl (by (first | exact RV.tmp rfl | exact RV.cell1 hT rfl rfl rfl (by (exact Rd1.row (by (repeat (first | exact Pick.head | apply Pick.tail))) (by rfl))) | exact RV.cellN hT rfl rfl rfl (by (first | exact RdN.rowAll (by (repeat (first | exact Pick.head | apply Pick.tail))) | exact RdN.own (by (repeat (first | exact Pick.head | apply Pick.tail))))) (by (first | rfl | assumption | (simp; done) | omega)))) (by (first | exact RV.tmp rfl | exact RV.cell1 hT rfl rfl rfl (by (exact Rd1.row (by (repeat (first | exact Pick.head | apply Pick.tail))) (by rfl))) | exact RV.cellN hT rfl rfl rfl (by (first | exact RdN.rowAll (by (repeat (first | exact Pick.head | apply Pick.tail))) | exact RdN.own (by (repeat (first | exact Pick.head | apply Pick.tail))))) (by (first | rfl | assumption | (simp; done) | omega)))) ?_
      exact ⟨rfl, fun w q => q.sup (by (repeat (first | exact Sup.refl | apply Sup.cons (by (repeat (first | exact Pick.head | apply Pick.tail))) | apply Sup.skip)))⟩
  case' hf =>
    intro h
    try (first | (exfalso; omega) | (cases h; done) | (exfalso; simp at h; done) | subst h)
    all_goals
      refine J.seq ?_
      refine J.region ?_
      refine JL.step (y_eql rfl rfl) rfl rfl rfl (JL.step (y_assign rfl) rfl rfl rfl ?_)
      refine JL.nil ?_
      refine JE.then_normal ?_
      first | apply J.cond_dec rfl | apply J.cond rfl
      case' ht =>
        intro h
        try (first | (exfalso; omega) | (cases h; done) | (exfalso; simp at h; done) | subst h)
        all_goals
          refine J.seq ?_
          refine J.draw _ _ [(0, .q), (1, .q), (2, .q), (3, .q), (4, .q), (5, .q), (6, .q), (7, .l), (8, .l), (9, .q)] mixed (by kernel_rfl) (Split.cons (Pick.head) (Split.nil)) ?_
          refine JM.quiet rfl rfl rfl rfl (fun m => y_build_arr0 hT rfl rfl rfl rfl) ?_
          refine JM.quiet rfl rfl rfl rfl (fun m => y_move rfl) ?_
          refine JM.quiet rfl rfl rfl rfl (fun m => y_fieldAddr hT rfl rfl rfl rfl rfl rfl) ?_
          refine JM.quiet rfl rfl rfl rfl (fun m => y_load1 hT rfl rfl rfl (by (exact Rd1.row (Pick.app m (by (repeat (first | exact Pick.head | apply Pick.tail)))) (by rfl)))) ?_
          refine JM.quiet rfl rfl rfl rfl (fun m => y_fieldAddr hT rfl rfl rfl rfl rfl rfl) ?_
          refine JM.quiet rfl rfl rfl rfl (fun m => y_load1 hT rfl rfl rfl (by (exact Rd1.row (Pick.app m (by (repeat (first | exact Pick.head | apply Pick.tail)))) (by rfl)))) ?_
          refine JM.quiet rfl rfl rfl rfl (fun m => y_callF e19 rfl (block_spec E _ _)) ?_
          refine JM.loud rfl rfl (fun fr => l_callF e47 rfl rfl (write_nil E o.at_ (blockOf o.fill) (blockOf_length _) _) ?_)
          rintro _ _ ⟨rfl, rfl⟩
          refine ⟨[_], (by (repeat (first | exact Split.nil | refine Split.cons Pick.head ?_))), ?_⟩
          refine JM.loud rfl rfl (fun fr => l_storeAll hT rfl rfl rfl (by (first | rfl | assumption | (simp; done) | omega)) (by (first | assumption | exact encW_one _ | exact encB_one _ | (intro u hu; simp at hu; rcases hu with rfl | rfl <;> rfl) | (intro u hu; simp at hu; subst hu; rfl) | simp)) (by (repeat (first | exact Pick.head | apply Pick.tail))) (by (first | rfl | assumption | (simp; done) | omega)) (⟨[_], (by (repeat (first | exact Split.nil | refine Split.cons Pick.head ?_))), ?_⟩))
          refine JM.quiet rfl rfl rfl rfl (fun m => y_assign rfl) ?_
          refine JM.nil ?_
          refine JE.then_normal ?_
          refine J.ret ?_
          refine JE.block_ret ?_
          refine JE.then_ret ?_
          refine JE.ret2 (.inl rfl) rfl rfl (by (first | exact RV.tmp rfl | exact RV.cell1 hT rfl rfl rfl (by (exact Rd1.row (by (repeat (first | exact Pick.head | apply Pick.tail))) (by rfl))) | exact RV.cellN hT rfl rfl rfl (by (first | exact RdN.rowAll (by (repeat (first | exact Pick.head | apply Pick.tail))) | exact RdN.own (by (repeat (first | exact Pick.head | apply Pick.tail))))) (by (first | rfl | assumption | (simp; done) | omega)))) (by (first | exact RV.tmp rfl | exact RV.cell1 hT rfl rfl rfl (by (exact Rd1.row (by (repeat (first | exact Pick.head | apply Pick.tail))) (by rfl))) | exact RV.cellN hT rfl rfl rfl (by (first | exact RdN.rowAll (by (repeat (first | exact Pick.head | apply Pick.tail))) | exact RdN.own (by (repeat (first | exact Pick.head | apply Pick.tail))))) (by (first | rfl | assumption | (simp; done) | omega)))) ?_
          exact ⟨rfl, fun w q => q.sup (by (repeat (first | exact Sup.refl | apply Sup.cons (by (repeat (first | exact Pick.head | apply Pick.tail))) | apply Sup.skip)))⟩
      case' hf =>
        intro h
        try (first | (exfalso; omega) | (cases h; done) | (exfalso; simp at h; done) | subst h)
        all_goals
          refine J.seq ?_
          refine J.region ?_
          refine JL.step (y_eql rfl rfl) rfl rfl rfl (JL.step (y_assign rfl) rfl rfl rfl ?_)
          refine JL.nil ?_
          refine JE.then_normal ?_
          first | apply J.cond_dec rfl | apply J.cond rfl
          case' ht =>
            intro h
            try (first | (exfalso; omega) | (cases h; done) | (exfalso; simp at h; done) | subst h)
            all_goals
              refine J.seq ?_
              refine J.region ?_
              refine JL.step (y_build_arr0 hT rfl rfl rfl rfl) rfl rfl rfl (JL.step (y_move rfl) rfl rfl rfl ?_)
              refine JL.loud rfl (l_callF e32 rfl rfl (sync_nil E _) ?_)
              rintro _ _ ⟨rfl, rfl⟩
              refine JL.loud rfl (l_storeAll hT rfl rfl rfl (by (first | rfl | assumption | (simp; done) | omega)) (by (first | assumption | exact encW_one _ | exact encB_one _ | (intro u hu; simp at hu; rcases hu with rfl | rfl <;> rfl) | (intro u hu; simp at hu; subst hu; rfl) | simp)) (by (repeat (first | exact Pick.head | apply Pick.tail))) (by (first | rfl | assumption | (simp; done) | omega)) ?_)
              refine JL.step (y_assign rfl) rfl rfl rfl ?_
              refine JL.nil ?_
              refine JE.then_normal ?_
              refine J.ret ?_
              refine JE.block_ret ?_
              refine JE.then_ret ?_
              refine JE.ret2 (.inl rfl) rfl rfl (by (first | exact RV.tmp rfl | exact RV.cell1 hT rfl rfl rfl (by (exact Rd1.row (by (repeat (first | exact Pick.head | apply Pick.tail))) (by rfl))) | exact RV.cellN hT rfl rfl rfl (by (first | exact RdN.rowAll (by (repeat (first | exact Pick.head | apply Pick.tail))) | exact RdN.own (by (repeat (first | exact Pick.head | apply Pick.tail))))) (by (first | rfl | assumption | (simp; done) | omega)))) (by (first | exact RV.tmp rfl | exact RV.cell1 hT rfl rfl rfl (by (exact Rd1.row (by (repeat (first | exact Pick.head | apply Pick.tail))) (by rfl))) | exact RV.cellN hT rfl rfl rfl (by (first | exact RdN.rowAll (by (repeat (first | exact Pick.head | apply Pick.tail))) | exact RdN.own (by (repeat (first | exact Pick.head | apply Pick.tail))))) (by (first | rfl | assumption | (simp; done) | omega)))) ?_
              exact ⟨rfl, fun w q => q.sup (by (repeat (first | exact Sup.refl | apply Sup.cons (by (repeat (first | exact Pick.head | apply Pick.tail))) | apply Sup.skip)))⟩
          case' hf =>
            intro h
            try (first | (exfalso; omega) | (cases h; done) | (exfalso; simp at h; done) | subst h)
            all_goals
              refine J.seq ?_
              refine J.region ?_
              refine JL.step (y_eql rfl rfl) rfl rfl rfl (JL.step (y_assign rfl) rfl rfl rfl ?_)
              refine JL.nil ?_
              refine JE.then_normal ?_
              first | apply J.cond_dec rfl | apply J.cond rfl
              case' ht =>
                intro h
                try (first | (exfalso; omega) | (cases h; done) | (exfalso; simp at h; done) | subst h)
                all_goals
                  refine J.seq ?_
                  refine J.region ?_
                  refine JL.step (y_build_arr0 hT rfl rfl rfl rfl) rfl rfl rfl (JL.step (y_move rfl) rfl rfl rfl (JL.step (y_fieldAddr hT rfl rfl rfl rfl rfl rfl) rfl rfl rfl ?_))
                  refine JL.step (y_load1 hT rfl rfl rfl (by (exact Rd1.row (by (repeat (first | exact Pick.head | apply Pick.tail))) (by rfl)))) rfl rfl rfl ?_
                  refine JL.loud rfl (l_callF e29 rfl rfl (arm_nil E o.at_ _) ?_)
                  rintro _ _ ⟨rfl, rfl⟩
                  refine JL.loud rfl (l_storeAll hT rfl rfl rfl (by (first | rfl | assumption | (simp; done) | omega)) (by (first | assumption | exact encW_one _ | exact encB_one _ | (intro u hu; simp at hu; rcases hu with rfl | rfl <;> rfl) | (intro u hu; simp at hu; subst hu; rfl) | simp)) (by (repeat (first | exact Pick.head | apply Pick.tail))) (by (first | rfl | assumption | (simp; done) | omega)) ?_)
                  refine JL.step (y_assign rfl) rfl rfl rfl ?_
                  refine JL.nil ?_
                  refine JE.then_normal ?_
                  refine J.ret ?_
                  refine JE.block_ret ?_
                  refine JE.then_ret ?_
                  refine JE.ret2 (.inl rfl) rfl rfl (by (first | exact RV.tmp rfl | exact RV.cell1 hT rfl rfl rfl (by (exact Rd1.row (by (repeat (first | exact Pick.head | apply Pick.tail))) (by rfl))) | exact RV.cellN hT rfl rfl rfl (by (first | exact RdN.rowAll (by (repeat (first | exact Pick.head | apply Pick.tail))) | exact RdN.own (by (repeat (first | exact Pick.head | apply Pick.tail))))) (by (first | rfl | assumption | (simp; done) | omega)))) (by (first | exact RV.tmp rfl | exact RV.cell1 hT rfl rfl rfl (by (exact Rd1.row (by (repeat (first | exact Pick.head | apply Pick.tail))) (by rfl))) | exact RV.cellN hT rfl rfl rfl (by (first | exact RdN.rowAll (by (repeat (first | exact Pick.head | apply Pick.tail))) | exact RdN.own (by (repeat (first | exact Pick.head | apply Pick.tail))))) (by (first | rfl | assumption | (simp; done) | omega)))) ?_
                  exact ⟨rfl, fun w q => q.sup (by (repeat (first | exact Sup.refl | apply Sup.cons (by (repeat (first | exact Pick.head | apply Pick.tail))) | apply Sup.skip)))⟩
              case' hf =>
                intro h
                try (first | (exfalso; omega) | (cases h; done) | (exfalso; simp at h; done) | subst h)
                all_goals
                  refine J.skip ?_
  all_goals refine JE.block_normal ?_
  all_goals refine JE.then_normal ?_
  all_goals
    refine J.seq ?_
    obtain ⟨hO, hOb⟩ := ho4
    refine J.region ?_
    refine JL.step (y_build_arr0 hT rfl rfl rfl rfl) rfl rfl rfl (JL.step (y_move rfl) rfl rfl rfl (JL.step (y_fieldAddr hT rfl rfl rfl rfl rfl rfl) rfl rfl rfl ?_))
    refine JL.step (y_load1 hT rfl rfl rfl (by (exact Rd1.row (by (repeat (first | exact Pick.head | apply Pick.tail))) (by rfl)))) rfl rfl rfl ?_
    refine JL.loud rfl (l_callF e56 rfl rfl (keeps_spec E _ _ _ _ ((hO.inl.cons _).cons _) hOb) ?_)
    rintro _ _ ⟨q, c, rfl, rfl⟩
    refine JL.loud rfl (l_callF e34 rfl rfl (crash_nil E _ rfl _) ?_)
    rintro _ _ ⟨rfl, rfl⟩
    refine JL.loud rfl (l_storeAll hT rfl rfl rfl (by (first | rfl | assumption | (simp; done) | omega)) (by (first | assumption | exact encW_one _ | exact encB_one _ | (intro u hu; simp at hu; rcases hu with rfl | rfl <;> rfl) | (intro u hu; simp at hu; subst hu; rfl) | simp)) (by (repeat (first | exact Pick.head | apply Pick.tail))) (by (first | rfl | assumption | (simp; done) | omega)) ?_)
    refine JL.step (y_assign rfl) rfl rfl rfl ?_
    refine JL.nil ?_
    refine JE.then_normal ?_
    refine J.ret ?_
    refine JE.ret2 (.inl rfl) rfl rfl (by (first | exact RV.tmp rfl | exact RV.cell1 hT rfl rfl rfl (by (exact Rd1.row (by (repeat (first | exact Pick.head | apply Pick.tail))) (by rfl))) | exact RV.cellN hT rfl rfl rfl (by (first | exact RdN.rowAll (by (repeat (first | exact Pick.head | apply Pick.tail))) | exact RdN.own (by (repeat (first | exact Pick.head | apply Pick.tail))))) (by (first | rfl | assumption | (simp; done) | omega)))) (by (first | exact RV.tmp rfl | exact RV.cell1 hT rfl rfl rfl (by (exact Rd1.row (by (repeat (first | exact Pick.head | apply Pick.tail))) (by rfl))) | exact RV.cellN hT rfl rfl rfl (by (first | exact RdN.rowAll (by (repeat (first | exact Pick.head | apply Pick.tail))) | exact RdN.own (by (repeat (first | exact Pick.head | apply Pick.tail))))) (by (first | rfl | assumption | (simp; done) | omega)))) ?_
    exact ⟨rfl, fun w q => q.sup (by (repeat (first | exact Sup.refl | apply Sup.cons (by (repeat (first | exact Pick.head | apply Pick.tail))) | apply Sup.skip)))⟩
theorem disk_none (o : OpA) (r : List HProp) (ho4 : o.Ok r ∧ o.bits.length ≤ 60000000000) :
    Fc prog E 8 [.agg (encO o).toArray].toArray r (fun v l' => v = .bool true ∧ l' = r) := by
  refine Fc.eqs ?_
  have hz : (encB zeroB).length = 64 := rfl
  refine Fc.of_body (c := ?c) Try.func8 ?hb Try.ntmps8 ?hl ?_
  case hb => exact rfl
  case hl => exact rfl
  refine J.seq ?_
  refine J.region ?_
  refine JL.loud rfl (l_box rfl (by (first | rfl | simp)) rfl (fun b1 => ?_))
  refine JL.step (y_assign rfl) rfl rfl rfl ?_
  refine JL.nil ?_
  refine JE.then_normal ?_
  refine J.seq ?_
  refine J.seq ?_
  refine J.region ?_
  refine JL.loud rfl (l_callF e15 rfl rfl (wakes_spec E _) ?_)
  rintro _ l1 ⟨rfl, e1⟩
  obtain rfl := e1
  refine JL.step (y_not rfl) rfl rfl rfl ?_
  refine JL.nil ?_
  refine JE.then_normal ?_
  refine J.cond_f rfl (by (first | rfl | assumption | (simp; done) | (simp; omega))) ?_
  refine J.skip ?_
  refine JE.then_normal ?_
  refine J.seq ?_
  refine J.region ?_
  refine JL.step (y_assign rfl) rfl rfl rfl ?_
  refine JL.nil ?_
  refine JE.then_normal ?_
  refine J.seq ?_
  refine J.region ?_
  refine JL.step (y_move rfl) rfl rfl rfl ?_
  refine JL.step (y_loadN hT rfl rfl rfl (by (first | exact RdN.rowAll (by (repeat (first | exact Pick.head | apply Pick.tail))) | exact RdN.own (by (repeat (first | exact Pick.head | apply Pick.tail))))) (by (first | rfl | assumption | (simp; done) | omega))) rfl rfl rfl ?_
  refine JL.loud rfl (l_callF e23 rfl rfl (Fc.on (Split.cons (by (repeat (first | exact Pick.head | apply Pick.tail))) Split.nil) (does_nil E o _ ⟨ho4.1.app [_], ho4.2⟩)) ?_)
  rintro _ _ ⟨rfl, rfl⟩
  refine JL.step (y_move rfl) rfl rfl rfl (JL.step (y_extract rfl rfl) rfl rfl rfl (JL.step (y_extract rfl rfl) rfl rfl rfl ?_))
  refine JL.loud rfl (l_alloc hT rfl rfl (by (first | rfl | simp)) rfl (fun b4 => ?_))
  refine JL.loud rfl (l_storeAll hT rfl rfl rfl (by (first | rfl | assumption | (simp; done) | omega)) (by (first | assumption | exact encW_one _ | exact encB_one _ | (intro u hu; simp at hu; rcases hu with rfl | rfl <;> rfl) | (intro u hu; simp at hu; subst hu; rfl) | simp)) (by (repeat (first | exact Pick.head | apply Pick.tail))) (by (first | rfl | assumption | (simp; done) | omega)) ?_)
  refine JL.step (y_assign rfl) rfl rfl rfl ?_
  refine JL.nil ?_
  refine JE.then_normal ?_
  refine J.seq ?_
  refine J.region ?_
  refine JL.step (y_loadN hT rfl rfl rfl (by (first | exact RdN.rowAll (by (repeat (first | exact Pick.head | apply Pick.tail))) | exact RdN.own (by (repeat (first | exact Pick.head | apply Pick.tail))))) (by (first | rfl | assumption | (simp; done) | omega))) rfl rfl rfl ?_
  refine JL.step (y_build_arr0 (zs := encB zeroB) hT rfl rfl rfl (by rw [encB_zero]; rfl)) rfl rfl rfl ?_
  refine JL.step (y_arr_eq (xs := zeroB) (ys := zeroB) hT rfl rfl rfl rfl rfl rfl rfl rfl rfl) rfl rfl rfl ?_
  refine JL.step (y_move rfl) rfl rfl rfl ?_
  all_goals (first | (refine JL.gsplit_dec rfl rfl rfl (fun h => ?_) (fun h => ?_) <;> try (first | (exfalso; omega) | exact absurd rfl h)) | (refine JL.gsplit rfl rfl rfl (fun h => ?_) (fun h => ?_) <;> try (first | cases h | (exfalso; simp at h; done))))
  all_goals (first | refine JL.gskip rfl rfl rfl rfl rfl rfl ?_ | refine JL.gstep rfl rfl rfl (y_move rfl) rfl rfl ?_)
  all_goals (first | refine JL.gskip rfl rfl rfl rfl rfl rfl ?_ | refine JL.gstep rfl rfl rfl (y_eql rfl rfl) rfl rfl ?_)
  all_goals (refine JL.step (y_pick rfl rfl rfl) rfl rfl rfl ?_)
  all_goals (refine JL.step (y_move rfl) rfl rfl rfl ?_)
  all_goals (first | (refine JL.gsplit_dec rfl rfl rfl (fun h => ?_) (fun h => ?_) <;> try (first | (exfalso; omega) | exact absurd rfl h)) | (refine JL.gsplit rfl rfl rfl (fun h => ?_) (fun h => ?_) <;> try (first | cases h | (exfalso; simp at h; done))))
  all_goals (first | refine JL.gskip rfl rfl rfl rfl rfl rfl ?_ | refine JL.gstep rfl rfl rfl (y_move rfl) rfl rfl ?_)
  all_goals (first | refine JL.gskip rfl rfl rfl rfl rfl rfl ?_ | (refine JL.gloud rfl rfl rfl (l_callF e26 rfl rfl (len_nil E _) ?_); rintro _ _ ⟨rfl, rfl⟩))
  all_goals (first | refine JL.gskip rfl rfl rfl rfl rfl rfl ?_ | refine JL.gstep rfl rfl rfl (y_eql rfl rfl) rfl rfl ?_)
  all_goals (refine JL.step (y_pick rfl rfl rfl) rfl rfl rfl ?_)
  all_goals (refine JL.step (y_move rfl) rfl rfl rfl ?_)
  all_goals (first | (refine JL.gsplit_dec rfl rfl rfl (fun h => ?_) (fun h => ?_) <;> try (first | (exfalso; omega) | exact absurd rfl h)) | (refine JL.gsplit rfl rfl rfl (fun h => ?_) (fun h => ?_) <;> try (first | cases h | (exfalso; simp at h; done))))
  all_goals (first | refine JL.gskip rfl rfl rfl rfl rfl rfl ?_ | refine JL.gstep rfl rfl rfl (y_move rfl) rfl rfl ?_)
  all_goals (first | refine JL.gskip rfl rfl rfl rfl rfl rfl ?_ | (refine JL.gloud rfl rfl rfl (l_callF e33 rfl rfl (pending_nil E _) ?_); rintro _ _ ⟨rfl, rfl⟩))
  all_goals (first | refine JL.gskip rfl rfl rfl rfl rfl rfl ?_ | refine JL.gstep rfl rfl rfl (y_len_slice hT rfl rfl rfl) rfl rfl ?_)
  all_goals (first | refine JL.gskip rfl rfl rfl rfl rfl rfl ?_ | refine JL.gstep rfl rfl rfl (y_eql rfl rfl) rfl rfl ?_)
  all_goals (refine JL.step (y_pick rfl rfl rfl) rfl rfl rfl ?_)
  all_goals (refine JL.step (y_move rfl) rfl rfl rfl ?_)
  all_goals (first | (refine JL.gsplit_dec rfl rfl rfl (fun h => ?_) (fun h => ?_) <;> try (first | (exfalso; omega) | exact absurd rfl h)) | (refine JL.gsplit rfl rfl rfl (fun h => ?_) (fun h => ?_) <;> try (first | cases h | (exfalso; simp at h; done))))
  all_goals (first | refine JL.gskip rfl rfl rfl rfl rfl rfl ?_ | refine JL.gstep rfl rfl rfl (y_move rfl) rfl rfl ?_)
  all_goals (first | refine JL.gskip rfl rfl rfl rfl rfl rfl ?_ | (refine JL.gloud rfl rfl rfl (l_callF e31 rfl rfl (dead_nil E _) ?_); rintro _ _ ⟨rfl, rfl⟩))
  all_goals (first | refine JL.gskip rfl rfl rfl rfl rfl rfl ?_ | refine JL.gstep rfl rfl rfl (y_not rfl) rfl rfl ?_)
  all_goals (refine JL.step (y_pick rfl rfl rfl) rfl rfl rfl ?_)
  all_goals (refine JL.step (y_move rfl) rfl rfl rfl ?_)
  all_goals (first | (refine JL.gsplit_dec rfl rfl rfl (fun h => ?_) (fun h => ?_) <;> try (first | (exfalso; omega) | exact absurd rfl h)) | (refine JL.gsplit rfl rfl rfl (fun h => ?_) (fun h => ?_) <;> try (first | cases h | (exfalso; simp at h; done))))
  all_goals (first | refine JL.gskip rfl rfl rfl rfl rfl rfl ?_ | refine JL.gstep rfl rfl rfl (y_move rfl) rfl rfl ?_)
  all_goals (first | refine JL.gskip rfl rfl rfl rfl rfl rfl ?_ | (refine JL.gloud rfl rfl rfl (l_callF e30 rfl rfl (ops_nil E _) ?_); rintro _ _ ⟨rfl, rfl⟩))
  all_goals (first | refine JL.gskip rfl rfl rfl rfl rfl rfl ?_ | refine JL.gstep rfl rfl rfl (y_eql rfl rfl) rfl rfl ?_)
  all_goals (refine JL.step (y_pick rfl rfl rfl) rfl rfl rfl ?_)
  all_goals (refine JL.step (y_move rfl) rfl rfl rfl ?_)
  all_goals (first | (refine JL.gsplit_dec rfl rfl rfl (fun h => ?_) (fun h => ?_) <;> try (first | (exfalso; omega) | exact absurd rfl h)) | (refine JL.gsplit rfl rfl rfl (fun h => ?_) (fun h => ?_) <;> try (first | cases h | (exfalso; simp at h; done))))
  all_goals (first | refine JL.gskip rfl rfl rfl rfl rfl rfl ?_ | refine JL.gstep rfl rfl rfl (y_move rfl) rfl rfl ?_)
  all_goals (first | refine JL.gskip rfl rfl rfl rfl rfl rfl ?_ | (refine JL.gloud rfl rfl rfl (l_callF e36 rfl rfl (copy_nil E _) ?_); rintro _ _ ⟨rfl, rfl⟩))
  all_goals (first | refine JL.gskip rfl rfl rfl rfl rfl rfl ?_ | refine JL.gstep rfl rfl rfl (y_ptr_eq_nil hT rfl rfl rfl rfl) rfl rfl ?_)
  all_goals (refine JL.step (y_pick rfl rfl rfl) rfl rfl rfl ?_)
  all_goals (refine JL.step (y_assign rfl) rfl rfl rfl ?_)
  all_goals refine JL.nil ?_
  all_goals refine JE.then_normal ?_
  all_goals
    refine J.ret ?_
    refine JE.ret1 (.inl rfl) rfl rfl (by (first | exact RV.tmp rfl | exact RV.cell1 hT rfl rfl rfl (by (exact Rd1.row (by (repeat (first | exact Pick.head | apply Pick.tail))) (by rfl))) | exact RV.cellN hT rfl rfl rfl (by (first | exact RdN.rowAll (by (repeat (first | exact Pick.head | apply Pick.tail))) | exact RdN.own (by (repeat (first | exact Pick.head | apply Pick.tail))))) (by (first | rfl | assumption | (simp; done) | omega)))) ?_
    exact ⟨rfl, fun w q => q.sup (by (repeat (first | exact Sup.refl | apply Sup.cons (by (repeat (first | exact Pick.head | apply Pick.tail))) | apply Sup.skip)))⟩
end
section
open Go.ChangeShapes Go.WideShapes Go.ChangeAt Go.RowKit
theorem disk_none_reads : ∀ t ∈ Try.f8.params.toList, Try.prog.readableRec t = true ∧ t < Try.prog.types.size := by
  rw [Try.params8]
  intro t ht
  simp only [List.mem_cons, List.not_mem_nil, or_false] at ht
  rcases ht with rfl
  all_goals exact ⟨by kernel_rfl, of_decide_eq_true (by kernel_rfl)⟩
set_option maxRecDepth 100000 in
theorem disk_none_contract (H : Type) (enc : TypeId × Value → H) (W : World) (base : Nat) (args : Array Value) (ds gs : List (DataW H)) (before : List MemPlace)
    (hval : ∀ (j : Nat) t v, Try.f8.params[j]? = some t → args[j]? = some v → Value.okWide Try.prog W .any base t v)
    (hW : DataW.Whole enc Try.prog Try.f8.params.toList Rows.diskNoneSpec.vars false W args.toList ds gs before) (hk : Rows.uptoSmall H (ds ++ gs) = true) :
    Calls Try.prog 8 args W fun e W' => ∃ v, e = .returned v ∧ Rows.diskNoneSpec.post enc Try.prog Try.f8 false true false false W args v W' := by
  have hW' := hW
  obtain ⟨p, q, hA0, hV, rfl, hfz, hnd⟩ := hW
  have hA : DataW.TrodAll enc Try.prog W 0 (fun _ => true) true Try.f8.params.toList args.toList ds p := hA0
  rw [Try.params8] at hA hval
  obtain ⟨v0, vs0, d0, ds0, p0, q0, hargs, rfl, rfl, h0, r0⟩ := trodAll_cons hA
  obtain ⟨rfl, rfl, rfl⟩ := trodAll_nil r0
  obtain rfl : args = #[v0] := by cases args; simp_all
  obtain ⟨rfl, rfl⟩ := trodVars_none hV
  clear hA0
  obtain ⟨cs0, rfl, t0⟩ := Tr.ofStruct (ok := upOk) u32 (hval 0 32 v0 rfl rfl) h0 (upOk_of hk d0 (by simp))
  obtain ⟨o, rfl, ho⟩ := tr_op upHer t0
  have hx : o.Ok [old W] ∧ o.bits.length ≤ 60000000000 := ⟨ho.here [], by have := ho.few; omega⟩
  refine ((disk_none W o [old W] hx) W (Sat.start W)).mono fun e W' hq => ?_
  obtain ⟨v, l', rfl, hs, rfl, rfl⟩ := hq
  exact ⟨_, rfl, law_post laidOut_ rfl rfl u4 disk_none_reads hW' rfl rfl rfl hs.below⟩
set_option maxRecDepth 100000 in
theorem disk_none_lifted (os : Os) (started : os.Started) (H : Type) (enc : TypeId × Value → H) (F : Stop.Interp) :
    ReturnsInHanded {} Try.checked os 8 .any ((Rows.OpenSpec.upto Rows.diskNoneSpec).pre6 enc Try.prog Try.f8 Rows.diskNoneUptoRow.domain false) (((Rows.OpenSpec.upto Rows.diskNoneSpec).at F).post enc Try.prog Try.f8 false true false false) := by
  refine returnsInHanded_of_cond (C := Try.checked) (s := Rows.OpenSpec.upto Rows.diskNoneSpec) (k := Rows.uptoSmall) rfl own_ started (by kernel_rfl) Try.func8
    (OpenSpec.witness (enc := enc) (C := Try.checked) (s := Rows.OpenSpec.upto Rows.diskNoneSpec) (k := Rows.uptoSmall) rfl false ⟨#[], #[.agg #[.int .i64 0, .int .i64 0, .int .u8 0, .slice none 0 0]], []⟩ 8 (by kernel_rfl) (by kernel_rfl) (by kernel_rfl)
      (x := ([.agg [.lit (.int .i64 0), .lit (.int .i64 0), .lit (.int .u8 0), .nil]], [], [])) (by kernel_rfl) rfl (by kernel_rfl)) ?_
  intro W base args ds gs before hval hW _ hk _
  exact disk_none_contract H enc W base args ds gs before hval hW hk
theorem disk_none_holds : Rows.DiskNoneUptoSaid :=
  OpenClaim.holds_of_cond 8 Try.f8 rfl rfl rfl rfl rfl rfl rfl ⟨rfl, rfl, rfl, rfl, rfl⟩ rfl rfl rfl rfl rfl (by kernel_rfl) Try.func8 (by kernel_rfl)
    (of_decide_eq_true (by kernel_rfl)) (by unfold Func.isWrapper; first | (rw [if_pos (by decide +kernel)]; kernel_rfl) | (rw [if_neg (by decide +kernel)]; exact ⟨rfl, rfl⟩))
    (fun os started H enc _ F => disk_none_lifted os started H enc F)
end
end Go.Proofs.Ytilifeeddpkclaa
