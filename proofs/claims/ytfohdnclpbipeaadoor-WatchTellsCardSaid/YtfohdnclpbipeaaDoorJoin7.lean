import Derived.Lib.Bytealg
import Derived.Test.YtfohdnclpbipeaaDoorJoin2
import Derived.Test.YtfohdnclpbipeaaDoorJoin4
import Derived.Test.YtfohdnclpbipeaaDoorJoin5
import Derived.Test.YtfohdnclpbipeaaDoorJoin6
namespace Go.Proofs.YtfohdnclpbipeaaDoor
section
open Go Go.SL
section
attribute [local irreducible] J JL JE JM LS Y Fc RV Code.wp wpList Code.wpIn wpListIn
attribute [local irreducible] Yc
attribute [local irreducible] Sort.ltInt
variable (E : World)
theorem partEqU (g c n a b p : Nat) (ia ib ip : Int) (d : Array Int) (sp : List Value) (r : List HProp) (ea : ia = a) (eb : ib = b) (ep : ip = p) (hn : d.size = n) (hp1 : a ≤ p) (hp2 : p < b) (hb : b ≤ n) (h63 : n < 4611686018427387904) :
    Fc prog E 104 [.slice (some ⟨g, 0, none⟩) n c, .int .i64 ia, .int .i64 ib, .int .i64 ip].toArray (arU g d sp :: r) (fun v l' => v = .int .i64 ((Sort.partitionEqual Sort.ltInt d a b p).1 : Int) ∧ l' = arU g (Sort.partitionEqual Sort.ltInt d a b p).2 sp :: r) := by
  refine Fc.eqs ?_
  subst ea eb ep
  refine Fc.of_body (c := ?codeC) Tryd.func104 ?hb Tryd.ntmps104 ?hl ?_
  case hb => exact rfl
  case hl => exact rfl
  refine J.seq ?_
  refine J.region ?_
  refine JL.step (y_assign rfl) rfl rfl rfl ?_
  refine JL.nil ?_
  refine JE.then_normal ?_
  refine J.seq ?_
  refine J.draw _ _ [(0, .q), (1, .q), (2, .q), (3, .q), (4, .q), (5, .q), (6, .q), (8, .q), (9, .q), (10, .q), (7, .e), (11, .e), (12, .q), (13, .l), (14, .q), (15, .l)] mixed (by kernel_rfl) (Split.cons (Pick.head) (Split.nil)) ?_
  refine JM.quiet rfl rfl rfl rfl (fun m => y_move rfl) ?_
  refine JM.quiet rfl rfl rfl rfl (fun m => y_move rfl) ?_
  refine JM.quiet rfl rfl rfl rfl (fun m => y_move rfl) ?_
  refine JM.quiet rfl rfl rfl rfl (fun m => y_move rfl) ?_
  refine JM.quiet rfl rfl rfl rfl (fun m => y_move rfl) ?_
  refine JM.quiet rfl rfl rfl rfl (fun m => y_move rfl) ?_
  refine JM.quiet rfl rfl rfl rfl (fun m => y_indexAddr_slice hT rfl rfl rfl rfl rfl (by (first | omega | exact Nat.le_of_ble_eq_true rfl | decide | (simp; omega))) (by (first | omega | exact Nat.le_of_ble_eq_true rfl | decide | (simp; omega)))) ?_
  refine JM.quiet rfl rfl rfl rfl (fun m => y_move rfl) ?_
  refine JM.quiet rfl rfl rfl rfl (fun m => y_move rfl) ?_
  refine JM.quiet rfl rfl rfl rfl (fun m => y_indexAddr_slice hT rfl rfl rfl rfl rfl (by (first | omega | exact Nat.le_of_ble_eq_true rfl | decide | (simp; omega))) (by (first | omega | exact Nat.le_of_ble_eq_true rfl | decide | (simp; omega)))) ?_
  refine JM.early rfl rfl rfl rfl (fun fr => y_load1 hT rfl rfl rfl (Rd1.arr (i := (p)) (by (repeat (first | exact Pick.head | apply Pick.tail | apply Pick.app))) (by (first | assumption | omega | (simp only [Array.size_setIfInBounds]; omega))) (by exact arr_off rfl (by omega)))) ?_
  refine JM.early rfl rfl rfl rfl (fun fr => y_load1 hT rfl rfl rfl (Rd1.arr (i := (a)) (by (repeat (first | exact Pick.head | apply Pick.tail | apply Pick.app))) (by (first | assumption | omega | (simp only [Array.size_setIfInBounds]; omega))) (by exact arr_off rfl (by omega)))) ?_
  refine JM.quiet rfl rfl rfl rfl (fun m => y_indexAddr_slice hT rfl rfl rfl rfl rfl (by (first | omega | exact Nat.le_of_ble_eq_true rfl | decide | (simp; omega))) (by (first | omega | exact Nat.le_of_ble_eq_true rfl | decide | (simp; omega)))) ?_
  refine JM.loud rfl rfl (fun fr => l_storeArr (j := (a)) (u := d[p]!) hT rfl rfl rfl rfl (fun _ => rfl) (by (repeat (first | exact Pick.head | apply Pick.tail | apply Pick.app))) (by (first | assumption | omega | (simp only [Array.size_setIfInBounds]; omega))) (by exact arr_off rfl (by omega)) (⟨[_], (by (repeat (first | exact Split.nil | exact Split.all | refine Split.cons Pick.head ?_))), ?_⟩))
  refine JM.quiet rfl rfl rfl rfl (fun m => y_indexAddr_slice hT rfl rfl rfl rfl rfl (by (first | omega | exact Nat.le_of_ble_eq_true rfl | decide | (simp; omega))) (by (first | omega | exact Nat.le_of_ble_eq_true rfl | decide | (simp; omega)))) ?_
  refine JM.loud rfl rfl (fun fr => l_storeArr (j := (p)) (u := d[a]!) hT rfl rfl rfl rfl (fun _ => rfl) (by (repeat (first | exact Pick.head | apply Pick.tail | apply Pick.app))) (by (first | assumption | omega | (simp only [Array.size_setIfInBounds]; omega))) (by exact arr_off rfl (by omega)) (⟨[_], (by (repeat (first | exact Split.nil | exact Split.all | refine Split.cons Pick.head ?_))), ?_⟩))
  refine JM.nil ?_
  refine JE.then_normal ?_
  refine J.seq ?_
  refine J.region ?_
  refine JL.step (y_move rfl) rfl rfl rfl ?_
  refine JL.step (y_add rfl rfl (by (first | exact wrap_i64 (by omega) (by omega) | rfl))) rfl rfl rfl ?_
  refine JL.step (y_move rfl) rfl rfl rfl ?_
  refine JL.step (y_sub rfl rfl (by (first | exact wrap_i64 (by omega) (by omega) | rfl))) rfl rfl rfl ?_
  refine JL.step (y_assign rfl) rfl rfl rfl (JL.step (y_assign rfl) rfl rfl rfl ?_)
  refine JL.nil ?_
  refine JE.then_normal ?_
  refine J.seq ?_
  refine J.block ?_
  refine J.loop (α := Nat × Nat × Array Int) (fun s => a < s.1 ∧ s.1 ≤ b ∧ s.2.1 < b ∧ s.1 ≤ s.2.1 + 1 ∧ s.2.2.size = n ∧ Sort.partEqLoop Sort.ltInt a s.1 s.2.1 s.2.2 = Sort.partitionEqual Sort.ltInt d a b p) (fun s => [(0, .slice (some ⟨g, 0, none⟩) n c), (1, .int .i64 a), (9, .int .i64 s.1), (10, .int .i64 s.2.1)]) (fun s => arU g s.2.2 sp :: r) (fun s => s.2.1 + 1 - s.1) (a + 1, b - 1, Sort.swp d a p) ⟨by dsimp only; omega, by dsimp only; omega, by dsimp only; omega, by dsimp only; omega, by dsimp only; rw [swp_size]; exact hn, rfl⟩ ⟨rfl, rfl, (congrArg (fun z => some (Value.int .i64 z)) (by first | omega | (dsimp only; omega))), (congrArg (fun z => some (Value.int .i64 z)) (by first | omega | (dsimp only; omega))), trivial⟩ (fun w h => h) ?_
  rintro ⟨i, j, d1⟩ ⟨hi1, hi2, hj1, hij, hs1, he1⟩
  try dsimp only at hi1 hi2 hj1 hij hs1 he1 ⊢
  rw [Sort.partEqLoop_eq] at he1
  refine J.block ?_
  refine J.seq ?_
  refine J.block ?_
  refine J.loop (α := Nat) (fun x => i ≤ x ∧ x ≤ j + 1 ∧ Sort.scanUp (fun x => !Sort.ltInt d1[a]! x) d1 j x = Sort.scanUp (fun x => !Sort.ltInt d1[a]! x) d1 j i) (fun x => [(0, .slice (some ⟨g, 0, none⟩) n c), (1, .int .i64 a), (9, .int .i64 x), (10, .int .i64 j)]) (fun x => arU g d1 sp :: r) (fun x => j + 1 - x) i ⟨Nat.le_refl _, hij, rfl⟩ ⟨rfl, rfl, rfl, rfl, trivial⟩ (fun w h => h) ?_
  rintro x ⟨hx1, hx2, hx3⟩
  try dsimp only at hx1 hx2 hx3 ⊢
  refine J.seq ?_
  refine J.seq ?_
  by_cases hg : x ≤ j
  all_goals
    refine J.draw _ _ [(0, .q), (1, .q), (2, .q), (3, .q), (4, .q), (5, .q), (6, .q), (7, .q), (8, .q), (9, .q), (10, .q), (11, .q), (12, .q), (13, .q), (14, .q)] mixed (by kernel_rfl) (Split.nil) ?_
    refine JM.quiet rfl rfl rfl rfl (fun m => y_move rfl) ?_
    refine JM.quiet rfl rfl rfl rfl (fun m => y_move rfl) ?_
    first | refine JM.quiet rfl rfl rfl rfl (fun m => y_leqB rfl rfl (decide_eq_true (by omega))) ?_ | refine JM.quiet rfl rfl rfl rfl (fun m => y_leqB rfl rfl (decide_eq_false (by omega))) ?_
    refine JM.quiet rfl rfl rfl rfl (fun m => y_move rfl) ?_
    all_goals (first | refine JM.gskip rfl rfl rfl rfl rfl rfl rfl ?_ | refine JM.gskipU rfl rfl rfl rfl rfl rfl ?_ | refine JM.gquiet rfl rfl rfl rfl rfl rfl (fun m => y_move rfl) ?_)
    all_goals (first | refine JM.gskip rfl rfl rfl rfl rfl rfl rfl ?_ | refine JM.gskipU rfl rfl rfl rfl rfl rfl ?_ | refine JM.gquiet rfl rfl rfl rfl rfl rfl (fun m => y_move rfl) ?_)
    all_goals (first | refine JM.gskip rfl rfl rfl rfl rfl rfl rfl ?_ | refine JM.gskipU rfl rfl rfl rfl rfl rfl ?_ | refine JM.gquiet rfl rfl rfl rfl rfl rfl (fun m => y_indexAddr_slice hT rfl rfl rfl rfl rfl (by (first | omega | exact Nat.le_of_ble_eq_true rfl | decide | (simp; omega))) (by (first | omega | exact Nat.le_of_ble_eq_true rfl | decide | (simp; omega)))) ?_)
    all_goals (first | refine JM.gskip rfl rfl rfl rfl rfl rfl rfl ?_ | refine JM.gskipU rfl rfl rfl rfl rfl rfl ?_ | refine JM.gquiet rfl rfl rfl rfl rfl rfl (fun m => y_load1 hT rfl rfl rfl (Rd1.arr (i := (a)) (Pick.app m (by (repeat (first | exact Pick.head | apply Pick.tail | apply Pick.app)))) (by (first | assumption | omega | (simp only [Array.size_setIfInBounds]; omega))) (by exact arr_off rfl (by omega)))) ?_)
    all_goals (first | refine JM.gskip rfl rfl rfl rfl rfl rfl rfl ?_ | refine JM.gskipU rfl rfl rfl rfl rfl rfl ?_ | refine JM.gquiet rfl rfl rfl rfl rfl rfl (fun m => y_move rfl) ?_)
    all_goals (first | refine JM.gskip rfl rfl rfl rfl rfl rfl rfl ?_ | refine JM.gskipU rfl rfl rfl rfl rfl rfl ?_ | refine JM.gquiet rfl rfl rfl rfl rfl rfl (fun m => y_move rfl) ?_)
    all_goals (first | refine JM.gskip rfl rfl rfl rfl rfl rfl rfl ?_ | refine JM.gskipU rfl rfl rfl rfl rfl rfl ?_ | refine JM.gquiet rfl rfl rfl rfl rfl rfl (fun m => y_indexAddr_slice hT rfl rfl rfl rfl rfl (by (first | omega | exact Nat.le_of_ble_eq_true rfl | decide | (simp; omega))) (by (first | omega | exact Nat.le_of_ble_eq_true rfl | decide | (simp; omega)))) ?_)
    all_goals (first | refine JM.gskip rfl rfl rfl rfl rfl rfl rfl ?_ | refine JM.gskipU rfl rfl rfl rfl rfl rfl ?_ | refine JM.gquiet rfl rfl rfl rfl rfl rfl (fun m => y_load1 hT rfl rfl rfl (Rd1.arr (i := (x)) (Pick.app m (by (repeat (first | exact Pick.head | apply Pick.tail | apply Pick.app)))) (by (first | assumption | omega | (simp only [Array.size_setIfInBounds]; omega))) (by exact arr_off rfl (by omega)))) ?_)
    all_goals (first | refine JM.gskip rfl rfl rfl rfl rfl rfl rfl ?_ | refine JM.gskipU rfl rfl rfl rfl rfl rfl ?_ | refine JM.gquiet rfl rfl rfl rfl rfl rfl (fun m => y_callF e103 rfl (lessU E _ _ _)) ?_)
    all_goals (first | refine JM.gskip rfl rfl rfl rfl rfl rfl rfl ?_ | refine JM.gskipU rfl rfl rfl rfl rfl rfl ?_ | refine JM.gquiet rfl rfl rfl rfl rfl rfl (fun m => y_not rfl) ?_)
    all_goals refine JM.quiet rfl rfl rfl rfl (fun m => y_pick rfl rfl rfl) ?_
    all_goals refine JM.nil ?_
  all_goals refine JE.then_normal ?_
  all_goals
    first | apply J.cond_dec rfl | apply J.cond rfl
    case' ht =>
      intro h
      try (first | (exfalso; omega) | (cases h; done) | (exfalso; simp at h; done) | subst h)
      all_goals
        rw [scanUp_go (by omega) h] at hx3
        refine J.skip ?_
    case' hf =>
      intro h
      try (first | (exfalso; omega) | (cases h; done) | (exfalso; simp at h; done) | subst h)
      all_goals
        have st1 : j < x ∨ Sort.ltInt d1[a]! d1[x]! = true := by first | exact .inl (by omega) | exact .inr (by simpa using h)
        rw [scanUp_stop (by first | exact .inl (by omega) | exact .inr h)] at hx3
        rw [← hx3] at he1
        refine J.exit ?_
        refine JE.then_exit ?_
        refine JE.then_exit ?_
        refine JE.block_exit ?_
        refine JE.then_normal ?_
        refine J.seq ?_
        refine J.block ?_
        refine J.loop (α := Nat) (fun y => y ≤ j ∧ x ≤ y + 1 ∧ Sort.scanDown (fun x => Sort.ltInt d1[a]! x) d1 x y = Sort.scanDown (fun x => Sort.ltInt d1[a]! x) d1 x j) (fun y => [(0, .slice (some ⟨g, 0, none⟩) n c), (1, .int .i64 a), (9, .int .i64 x), (10, .int .i64 y)]) (fun x => arU g d1 sp :: r) (fun y => y) j ⟨Nat.le_refl _, hx2, rfl⟩ ⟨rfl, rfl, rfl, rfl, trivial⟩ (fun w h => h) ?_
        rintro y ⟨hy1, hy2, hy3⟩
        try dsimp only at hy1 hy2 hy3 ⊢
        refine J.seq ?_
        refine J.seq ?_
        by_cases hg : x ≤ y
        all_goals
          refine J.draw _ _ [(0, .q), (1, .q), (2, .q), (3, .q), (4, .q), (5, .q), (6, .q), (7, .q), (8, .q), (9, .q), (10, .q), (11, .q), (12, .q), (13, .q)] mixed (by kernel_rfl) (Split.nil) ?_
          refine JM.quiet rfl rfl rfl rfl (fun m => y_move rfl) ?_
          refine JM.quiet rfl rfl rfl rfl (fun m => y_move rfl) ?_
          first | refine JM.quiet rfl rfl rfl rfl (fun m => y_leqB rfl rfl (decide_eq_true (by omega))) ?_ | refine JM.quiet rfl rfl rfl rfl (fun m => y_leqB rfl rfl (decide_eq_false (by omega))) ?_
          refine JM.quiet rfl rfl rfl rfl (fun m => y_move rfl) ?_
          all_goals (first | refine JM.gskip rfl rfl rfl rfl rfl rfl rfl ?_ | refine JM.gskipU rfl rfl rfl rfl rfl rfl ?_ | refine JM.gquiet rfl rfl rfl rfl rfl rfl (fun m => y_move rfl) ?_)
          all_goals (first | refine JM.gskip rfl rfl rfl rfl rfl rfl rfl ?_ | refine JM.gskipU rfl rfl rfl rfl rfl rfl ?_ | refine JM.gquiet rfl rfl rfl rfl rfl rfl (fun m => y_move rfl) ?_)
          all_goals (first | refine JM.gskip rfl rfl rfl rfl rfl rfl rfl ?_ | refine JM.gskipU rfl rfl rfl rfl rfl rfl ?_ | refine JM.gquiet rfl rfl rfl rfl rfl rfl (fun m => y_indexAddr_slice hT rfl rfl rfl rfl rfl (by (first | omega | exact Nat.le_of_ble_eq_true rfl | decide | (simp; omega))) (by (first | omega | exact Nat.le_of_ble_eq_true rfl | decide | (simp; omega)))) ?_)
          all_goals (first | refine JM.gskip rfl rfl rfl rfl rfl rfl rfl ?_ | refine JM.gskipU rfl rfl rfl rfl rfl rfl ?_ | refine JM.gquiet rfl rfl rfl rfl rfl rfl (fun m => y_load1 hT rfl rfl rfl (Rd1.arr (i := (a)) (Pick.app m (by (repeat (first | exact Pick.head | apply Pick.tail | apply Pick.app)))) (by (first | assumption | omega | (simp only [Array.size_setIfInBounds]; omega))) (by exact arr_off rfl (by omega)))) ?_)
          all_goals (first | refine JM.gskip rfl rfl rfl rfl rfl rfl rfl ?_ | refine JM.gskipU rfl rfl rfl rfl rfl rfl ?_ | refine JM.gquiet rfl rfl rfl rfl rfl rfl (fun m => y_move rfl) ?_)
          all_goals (first | refine JM.gskip rfl rfl rfl rfl rfl rfl rfl ?_ | refine JM.gskipU rfl rfl rfl rfl rfl rfl ?_ | refine JM.gquiet rfl rfl rfl rfl rfl rfl (fun m => y_move rfl) ?_)
          all_goals (first | refine JM.gskip rfl rfl rfl rfl rfl rfl rfl ?_ | refine JM.gskipU rfl rfl rfl rfl rfl rfl ?_ | refine JM.gquiet rfl rfl rfl rfl rfl rfl (fun m => y_indexAddr_slice hT rfl rfl rfl rfl rfl (by (first | omega | exact Nat.le_of_ble_eq_true rfl | decide | (simp; omega))) (by (first | omega | exact Nat.le_of_ble_eq_true rfl | decide | (simp; omega)))) ?_)
          all_goals (first | refine JM.gskip rfl rfl rfl rfl rfl rfl rfl ?_ | refine JM.gskipU rfl rfl rfl rfl rfl rfl ?_ | refine JM.gquiet rfl rfl rfl rfl rfl rfl (fun m => y_load1 hT rfl rfl rfl (Rd1.arr (i := (y)) (Pick.app m (by (repeat (first | exact Pick.head | apply Pick.tail | apply Pick.app)))) (by (first | assumption | omega | (simp only [Array.size_setIfInBounds]; omega))) (by exact arr_off rfl (by omega)))) ?_)
          all_goals (first | refine JM.gskip rfl rfl rfl rfl rfl rfl rfl ?_ | refine JM.gskipU rfl rfl rfl rfl rfl rfl ?_ | refine JM.gquiet rfl rfl rfl rfl rfl rfl (fun m => y_callF e103 rfl (lessU E _ _ _)) ?_)
          all_goals refine JM.quiet rfl rfl rfl rfl (fun m => y_pick rfl rfl rfl) ?_
          all_goals refine JM.nil ?_
        all_goals refine JE.then_normal ?_
        all_goals
          first | apply J.cond_dec rfl | apply J.cond rfl
          case' ht =>
            intro h
            try (first | (exfalso; omega) | (cases h; done) | (exfalso; simp at h; done) | subst h)
            all_goals
              rw [scanDown_go (by omega) (by omega) h] at hy3
              refine J.skip ?_
          case' hf =>
            intro h
            try (first | (exfalso; omega) | (cases h; done) | (exfalso; simp at h; done) | subst h)
            all_goals
              have st2 : y < x ∨ Sort.ltInt d1[a]! d1[y]! = false := by first | exact .inl (by omega) | exact .inr h
              rw [scanDown_stop (by first | exact .inl (by omega) | exact .inr h)] at hy3
              rw [← hy3] at he1
              refine J.exit ?_
              refine JE.then_exit ?_
              refine JE.then_exit ?_
              refine JE.block_exit ?_
              refine JE.then_normal ?_
              refine J.seq ?_
              refine J.seq ?_
              refine J.region ?_
              refine JL.step (y_move rfl) rfl rfl rfl (JL.step (y_move rfl) rfl rfl rfl (JL.step (y_gtr rfl rfl) rfl rfl rfl ?_))
              refine JL.nil ?_
              refine JE.then_normal ?_
              first | apply J.cond_dec rfl | apply J.cond rfl
              case' ht =>
                intro h
                try (first | (exfalso; omega) | (cases h; done) | (exfalso; simp at h; done) | subst h)
                all_goals
                  rw [if_pos (by omega)] at he1
                  refine J.exit ?_
                  refine JE.then_exit ?_
                  refine JE.block_past rfl ?_
                  refine JE.then_exit ?_
                  refine JE.block_exit ?_
                  refine JE.then_normal ?_
                  refine J.seq ?_
                  refine J.region ?_
                  refine JL.step (y_move rfl) rfl rfl rfl (JL.step (y_assign rfl) rfl rfl rfl ?_)
                  refine JL.nil ?_
                  refine JE.then_normal ?_
                  refine J.ret ?_
                  refine JE.ret1 (.inl rfl) rfl rfl (by (first | exact RV.tmp rfl | exact RV.cell1 hT rfl rfl rfl (by (exact Rd1.row (by (repeat (first | exact Pick.head | apply Pick.tail | apply Pick.app))) (by rfl))) | exact RV.cellN hT rfl rfl rfl (by (first | exact RdN.rowAll (by (repeat (first | exact Pick.head | apply Pick.tail | apply Pick.app))) | exact RdN.own (by (repeat (first | exact Pick.head | apply Pick.tail | apply Pick.app))))) (by (first | rfl | assumption | (simp; done) | omega)))) ?_
                  exact ⟨by rw [← he1], fun w h => by rw [← he1]; exact h⟩
              case' hf =>
                intro h
                try (first | (exfalso; omega) | (cases h; done) | (exfalso; simp at h; done) | subst h)
                all_goals
                  rw [if_neg (by omega)] at he1
                  have hne : ¬ x = y := by
                    rintro rfl
                    rcases st1 with q | q
                    · omega
                    · rcases st2 with q2 | q2
                      · omega
                      · rw [q] at q2; cases q2
                  refine J.skip ?_
              all_goals refine JE.then_normal ?_
              all_goals
                refine J.seq ?_
                refine J.draw _ _ [(0, .q), (1, .q), (2, .q), (3, .q), (4, .q), (5, .q), (6, .q), (8, .q), (9, .q), (10, .q), (7, .e), (11, .e), (12, .q), (13, .l), (14, .q), (15, .l)] mixed (by kernel_rfl) (Split.cons (Pick.head) (Split.nil)) ?_
                refine JM.quiet rfl rfl rfl rfl (fun m => y_move rfl) ?_
                refine JM.quiet rfl rfl rfl rfl (fun m => y_move rfl) ?_
                refine JM.quiet rfl rfl rfl rfl (fun m => y_move rfl) ?_
                refine JM.quiet rfl rfl rfl rfl (fun m => y_move rfl) ?_
                refine JM.quiet rfl rfl rfl rfl (fun m => y_move rfl) ?_
                refine JM.quiet rfl rfl rfl rfl (fun m => y_move rfl) ?_
                refine JM.quiet rfl rfl rfl rfl (fun m => y_indexAddr_slice hT rfl rfl rfl rfl rfl (by (first | omega | exact Nat.le_of_ble_eq_true rfl | decide | (simp; omega))) (by (first | omega | exact Nat.le_of_ble_eq_true rfl | decide | (simp; omega)))) ?_
                refine JM.quiet rfl rfl rfl rfl (fun m => y_move rfl) ?_
                refine JM.quiet rfl rfl rfl rfl (fun m => y_move rfl) ?_
                refine JM.quiet rfl rfl rfl rfl (fun m => y_indexAddr_slice hT rfl rfl rfl rfl rfl (by (first | omega | exact Nat.le_of_ble_eq_true rfl | decide | (simp; omega))) (by (first | omega | exact Nat.le_of_ble_eq_true rfl | decide | (simp; omega)))) ?_
                refine JM.early rfl rfl rfl rfl (fun fr => y_load1 hT rfl rfl rfl (Rd1.arr (i := (y)) (by (repeat (first | exact Pick.head | apply Pick.tail | apply Pick.app))) (by (first | assumption | omega | (simp only [Array.size_setIfInBounds]; omega))) (by exact arr_off rfl (by omega)))) ?_
                refine JM.early rfl rfl rfl rfl (fun fr => y_load1 hT rfl rfl rfl (Rd1.arr (i := (x)) (by (repeat (first | exact Pick.head | apply Pick.tail | apply Pick.app))) (by (first | assumption | omega | (simp only [Array.size_setIfInBounds]; omega))) (by exact arr_off rfl (by omega)))) ?_
                refine JM.quiet rfl rfl rfl rfl (fun m => y_indexAddr_slice hT rfl rfl rfl rfl rfl (by (first | omega | exact Nat.le_of_ble_eq_true rfl | decide | (simp; omega))) (by (first | omega | exact Nat.le_of_ble_eq_true rfl | decide | (simp; omega)))) ?_
                refine JM.loud rfl rfl (fun fr => l_storeArr (j := (x)) (u := d1[y]!) hT rfl rfl rfl rfl (fun _ => rfl) (by (repeat (first | exact Pick.head | apply Pick.tail | apply Pick.app))) (by (first | assumption | omega | (simp only [Array.size_setIfInBounds]; omega))) (by exact arr_off rfl (by omega)) (⟨[_], (by (repeat (first | exact Split.nil | exact Split.all | refine Split.cons Pick.head ?_))), ?_⟩))
                refine JM.quiet rfl rfl rfl rfl (fun m => y_indexAddr_slice hT rfl rfl rfl rfl rfl (by (first | omega | exact Nat.le_of_ble_eq_true rfl | decide | (simp; omega))) (by (first | omega | exact Nat.le_of_ble_eq_true rfl | decide | (simp; omega)))) ?_
                refine JM.loud rfl rfl (fun fr => l_storeArr (j := (y)) (u := d1[x]!) hT rfl rfl rfl rfl (fun _ => rfl) (by (repeat (first | exact Pick.head | apply Pick.tail | apply Pick.app))) (by (first | assumption | omega | (simp only [Array.size_setIfInBounds]; omega))) (by exact arr_off rfl (by omega)) (⟨[_], (by (repeat (first | exact Split.nil | exact Split.all | refine Split.cons Pick.head ?_))), ?_⟩))
                refine JM.nil ?_
                refine JE.then_normal ?_
                refine J.seq ?_
                refine J.region ?_
                refine JL.step (y_move rfl) rfl rfl rfl ?_
                refine JL.step (y_add rfl rfl (by (first | exact wrap_i64 (by omega) (by omega) | rfl))) rfl rfl rfl ?_
                refine JL.step (y_assign rfl) rfl rfl rfl ?_
                refine JL.nil ?_
                refine JE.then_normal ?_
                refine J.region ?_
                refine JL.step (y_move rfl) rfl rfl rfl ?_
                refine JL.step (y_sub rfl rfl (by (first | exact wrap_i64 (by omega) (by omega) | rfl))) rfl rfl rfl ?_
                refine JL.step (y_assign rfl) rfl rfl rfl ?_
                refine JL.nil ?_
              all_goals
                refine JE.block_normal ?_
                exact JE.round (s := (i, j, d1)) (x + 1, y - 1, Sort.swp d1 x y) ⟨by dsimp only; omega, by dsimp only; omega, by dsimp only; omega, by dsimp only; omega, by dsimp only; rw [swp_size]; exact hs1, he1⟩ ⟨rfl, rfl, (congrArg (fun z => some (Value.int .i64 z)) (by first | omega | (dsimp only; omega))), (congrArg (fun z => some (Value.int .i64 z)) (by first | omega | (dsimp only; omega))), trivial⟩ (fun w h => h) (by dsimp only; omega)
        all_goals refine JE.then_normal ?_
        all_goals
          refine J.block ?_
          refine J.region ?_
          refine JL.step (y_move rfl) rfl rfl rfl ?_
          refine JL.step (y_sub rfl rfl (by (first | exact wrap_i64 (by omega) (by omega) | rfl))) rfl rfl rfl ?_
          refine JL.step (y_assign rfl) rfl rfl rfl ?_
          refine JL.nil ?_
          refine JE.block_normal ?_
        all_goals
          exact JE.round (s := y) (y - 1) ⟨by omega, by omega, hy3⟩ ⟨rfl, rfl, rfl, (congrArg (fun z => some (Value.int .i64 z)) (by first | omega | (dsimp only; omega))), trivial⟩ (fun w h => h) (by omega)
  all_goals refine JE.then_normal ?_
  all_goals
    refine J.block ?_
    refine J.region ?_
    refine JL.step (y_move rfl) rfl rfl rfl ?_
    refine JL.step (y_add rfl rfl (by (first | exact wrap_i64 (by omega) (by omega) | rfl))) rfl rfl rfl ?_
    refine JL.step (y_assign rfl) rfl rfl rfl ?_
    refine JL.nil ?_
    refine JE.block_normal ?_
  all_goals
    exact JE.round (s := x) (x + 1) ⟨by omega, by omega, hx3⟩ ⟨rfl, rfl, (congrArg (fun z => some (Value.int .i64 z)) (by first | omega | (dsimp only; omega))), rfl, trivial⟩ (fun w h => h) (by omega)
theorem partU (g c n a b p : Nat) (ia ib ip : Int) (d : Array Int) (sp : List Value) (r : List HProp) (ea : ia = a) (eb : ib = b) (ep : ip = p) (hn : d.size = n) (hp1 : a ≤ p) (hp2 : p < b) (hb : b ≤ n) (h63 : n < 4611686018427387904) :
    Fc prog E 105 [.slice (some ⟨g, 0, none⟩) n c, .int .i64 ia, .int .i64 ib, .int .i64 ip].toArray (arU g d sp :: r) (fun v l' => v = .tuple #[.int .i64 ((Sort.partition Sort.ltInt d a b p).1 : Int), .bool (Sort.partition Sort.ltInt d a b p).2.1] ∧ l' = arU g (Sort.partition Sort.ltInt d a b p).2.2 sp :: r) := by
  refine Fc.eqs ?_
  subst ea eb ep
  generalize hres : Sort.partition Sort.ltInt d a b p = res
  obtain ⟨d0, hd0⟩ : ∃ d0, Sort.swp d a p = d0 := ⟨_, rfl⟩
  rw [partition_eq, hd0] at hres
  have hs0 : d0.size = n := by rw [← hd0, swp_size]; exact hn
  refine Fc.of_body (c := ?codeC) Tryd.func105 ?hb Tryd.ntmps105 ?hl ?_
  case hb => exact rfl
  case hl => exact rfl
  refine J.seq ?_
  refine J.region ?_
  refine JL.step (y_assign rfl) rfl rfl rfl (JL.step (y_assign rfl) rfl rfl rfl ?_)
  refine JL.nil ?_
  refine JE.then_normal ?_
  refine J.seq ?_
  refine J.draw _ _ [(0, .q), (1, .q), (2, .q), (3, .q), (4, .q), (5, .q), (6, .q), (8, .q), (9, .q), (10, .q), (7, .e), (11, .e), (12, .q), (13, .l), (14, .q), (15, .l)] mixed (by kernel_rfl) (Split.cons (Pick.head) (Split.nil)) ?_
  refine JM.quiet rfl rfl rfl rfl (fun m => y_move rfl) ?_
  refine JM.quiet rfl rfl rfl rfl (fun m => y_move rfl) ?_
  refine JM.quiet rfl rfl rfl rfl (fun m => y_move rfl) ?_
  refine JM.quiet rfl rfl rfl rfl (fun m => y_move rfl) ?_
  refine JM.quiet rfl rfl rfl rfl (fun m => y_move rfl) ?_
  refine JM.quiet rfl rfl rfl rfl (fun m => y_move rfl) ?_
  refine JM.quiet rfl rfl rfl rfl (fun m => y_indexAddr_slice hT rfl rfl rfl rfl rfl (by (first | omega | exact Nat.le_of_ble_eq_true rfl | decide | (simp; omega))) (by (first | omega | exact Nat.le_of_ble_eq_true rfl | decide | (simp; omega)))) ?_
  refine JM.quiet rfl rfl rfl rfl (fun m => y_move rfl) ?_
  refine JM.quiet rfl rfl rfl rfl (fun m => y_move rfl) ?_
  refine JM.quiet rfl rfl rfl rfl (fun m => y_indexAddr_slice hT rfl rfl rfl rfl rfl (by (first | omega | exact Nat.le_of_ble_eq_true rfl | decide | (simp; omega))) (by (first | omega | exact Nat.le_of_ble_eq_true rfl | decide | (simp; omega)))) ?_
  refine JM.early rfl rfl rfl rfl (fun fr => y_load1 hT rfl rfl rfl (Rd1.arr (i := (p)) (by (repeat (first | exact Pick.head | apply Pick.tail | apply Pick.app))) (by (first | assumption | omega | (simp only [Array.size_setIfInBounds]; omega))) (by exact arr_off rfl (by omega)))) ?_
  refine JM.early rfl rfl rfl rfl (fun fr => y_load1 hT rfl rfl rfl (Rd1.arr (i := (a)) (by (repeat (first | exact Pick.head | apply Pick.tail | apply Pick.app))) (by (first | assumption | omega | (simp only [Array.size_setIfInBounds]; omega))) (by exact arr_off rfl (by omega)))) ?_
  refine JM.quiet rfl rfl rfl rfl (fun m => y_indexAddr_slice hT rfl rfl rfl rfl rfl (by (first | omega | exact Nat.le_of_ble_eq_true rfl | decide | (simp; omega))) (by (first | omega | exact Nat.le_of_ble_eq_true rfl | decide | (simp; omega)))) ?_
  refine JM.loud rfl rfl (fun fr => l_storeArr (j := (a)) (u := d[p]!) hT rfl rfl rfl rfl (fun _ => rfl) (by (repeat (first | exact Pick.head | apply Pick.tail | apply Pick.app))) (by (first | assumption | omega | (simp only [Array.size_setIfInBounds]; omega))) (by exact arr_off rfl (by omega)) (⟨[_], (by (repeat (first | exact Split.nil | exact Split.all | refine Split.cons Pick.head ?_))), ?_⟩))
  refine JM.quiet rfl rfl rfl rfl (fun m => y_indexAddr_slice hT rfl rfl rfl rfl rfl (by (first | omega | exact Nat.le_of_ble_eq_true rfl | decide | (simp; omega))) (by (first | omega | exact Nat.le_of_ble_eq_true rfl | decide | (simp; omega)))) ?_
  refine JM.loud rfl rfl (fun fr => l_storeArr (j := (p)) (u := d[a]!) hT rfl rfl rfl rfl (fun _ => rfl) (by (repeat (first | exact Pick.head | apply Pick.tail | apply Pick.app))) (by (first | assumption | omega | (simp only [Array.size_setIfInBounds]; omega))) (by exact arr_off rfl (by omega)) (⟨[_], (by (repeat (first | exact Split.nil | exact Split.all | refine Split.cons Pick.head ?_))), ?_⟩))
  refine JM.nil ?_
  refine JE.then_normal ?_
  refine J.seq ?_
  refine J.region ?_
  refine JL.step (y_move rfl) rfl rfl rfl ?_
  refine JL.step (y_add rfl rfl (by (first | exact wrap_i64 (by omega) (by omega) | rfl))) rfl rfl rfl ?_
  refine JL.step (y_move rfl) rfl rfl rfl ?_
  refine JL.step (y_sub rfl rfl (by (first | exact wrap_i64 (by omega) (by omega) | rfl))) rfl rfl rfl ?_
  refine JL.step (y_assign rfl) rfl rfl rfl (JL.step (y_assign rfl) rfl rfl rfl ?_)
  refine JL.nil ?_
  refine JE.then_normal ?_
  refine J.seq ?_
  refine J.block ?_
  refine J.loop (α := Nat) (fun x => a < x ∧ x ≤ b ∧ Sort.scanUp (fun x => Sort.ltInt x d0[a]!) d0 (b - 1) x = Sort.scanUp (fun x => Sort.ltInt x d0[a]!) d0 (b - 1) (a + 1)) (fun x => [(0, .slice (some ⟨g, 0, none⟩) n c), (1, .int .i64 a), (10, .int .i64 x), (11, .int .i64 ((b - 1 : Nat) : Int))]) (fun x => arU g d0 sp :: r) (fun x => b - x) (a + 1) ⟨by omega, by omega, rfl⟩ ⟨rfl, rfl, (congrArg (fun z => some (Value.int .i64 z)) (by first | omega | (dsimp only; omega))), (congrArg (fun z => some (Value.int .i64 z)) (by first | omega | (dsimp only; omega))), trivial⟩ (fun w h => by rw [← hd0]; exact h) ?_
  rintro x ⟨hx1, hx2, hx3⟩
  try dsimp only at hx1 hx2 hx3 ⊢
  refine J.seq ?_
  refine J.seq ?_
  by_cases hg : x ≤ b - 1
  all_goals
    refine J.draw _ _ [(0, .q), (1, .q), (2, .q), (3, .q), (4, .q), (5, .q), (6, .q), (7, .q), (8, .q), (9, .q), (10, .q), (11, .q), (12, .q), (13, .q)] mixed (by kernel_rfl) (Split.nil) ?_
    refine JM.quiet rfl rfl rfl rfl (fun m => y_move rfl) ?_
    refine JM.quiet rfl rfl rfl rfl (fun m => y_move rfl) ?_
    first | refine JM.quiet rfl rfl rfl rfl (fun m => y_leqB rfl rfl (decide_eq_true (by omega))) ?_ | refine JM.quiet rfl rfl rfl rfl (fun m => y_leqB rfl rfl (decide_eq_false (by omega))) ?_
    refine JM.quiet rfl rfl rfl rfl (fun m => y_move rfl) ?_
    all_goals (first | refine JM.gskip rfl rfl rfl rfl rfl rfl rfl ?_ | refine JM.gskipU rfl rfl rfl rfl rfl rfl ?_ | refine JM.gquiet rfl rfl rfl rfl rfl rfl (fun m => y_move rfl) ?_)
    all_goals (first | refine JM.gskip rfl rfl rfl rfl rfl rfl rfl ?_ | refine JM.gskipU rfl rfl rfl rfl rfl rfl ?_ | refine JM.gquiet rfl rfl rfl rfl rfl rfl (fun m => y_move rfl) ?_)
    all_goals (first | refine JM.gskip rfl rfl rfl rfl rfl rfl rfl ?_ | refine JM.gskipU rfl rfl rfl rfl rfl rfl ?_ | refine JM.gquiet rfl rfl rfl rfl rfl rfl (fun m => y_indexAddr_slice hT rfl rfl rfl rfl rfl (by (first | omega | exact Nat.le_of_ble_eq_true rfl | decide | (simp; omega))) (by (first | omega | exact Nat.le_of_ble_eq_true rfl | decide | (simp; omega)))) ?_)
    all_goals (first | refine JM.gskip rfl rfl rfl rfl rfl rfl rfl ?_ | refine JM.gskipU rfl rfl rfl rfl rfl rfl ?_ | refine JM.gquiet rfl rfl rfl rfl rfl rfl (fun m => y_load1 hT rfl rfl rfl (Rd1.arr (i := (x)) (Pick.app m (by (repeat (first | exact Pick.head | apply Pick.tail | apply Pick.app)))) (by (first | assumption | omega | (simp only [Array.size_setIfInBounds]; omega))) (by exact arr_off rfl (by omega)))) ?_)
    all_goals (first | refine JM.gskip rfl rfl rfl rfl rfl rfl rfl ?_ | refine JM.gskipU rfl rfl rfl rfl rfl rfl ?_ | refine JM.gquiet rfl rfl rfl rfl rfl rfl (fun m => y_move rfl) ?_)
    all_goals (first | refine JM.gskip rfl rfl rfl rfl rfl rfl rfl ?_ | refine JM.gskipU rfl rfl rfl rfl rfl rfl ?_ | refine JM.gquiet rfl rfl rfl rfl rfl rfl (fun m => y_move rfl) ?_)
    all_goals (first | refine JM.gskip rfl rfl rfl rfl rfl rfl rfl ?_ | refine JM.gskipU rfl rfl rfl rfl rfl rfl ?_ | refine JM.gquiet rfl rfl rfl rfl rfl rfl (fun m => y_indexAddr_slice hT rfl rfl rfl rfl rfl (by (first | omega | exact Nat.le_of_ble_eq_true rfl | decide | (simp; omega))) (by (first | omega | exact Nat.le_of_ble_eq_true rfl | decide | (simp; omega)))) ?_)
    all_goals (first | refine JM.gskip rfl rfl rfl rfl rfl rfl rfl ?_ | refine JM.gskipU rfl rfl rfl rfl rfl rfl ?_ | refine JM.gquiet rfl rfl rfl rfl rfl rfl (fun m => y_load1 hT rfl rfl rfl (Rd1.arr (i := (a)) (Pick.app m (by (repeat (first | exact Pick.head | apply Pick.tail | apply Pick.app)))) (by (first | assumption | omega | (simp only [Array.size_setIfInBounds]; omega))) (by exact arr_off rfl (by omega)))) ?_)
    all_goals (first | refine JM.gskip rfl rfl rfl rfl rfl rfl rfl ?_ | refine JM.gskipU rfl rfl rfl rfl rfl rfl ?_ | refine JM.gquiet rfl rfl rfl rfl rfl rfl (fun m => y_callF e103 rfl (lessU E _ _ _)) ?_)
    all_goals refine JM.quiet rfl rfl rfl rfl (fun m => y_pick rfl rfl rfl) ?_
    all_goals refine JM.nil ?_
  all_goals refine JE.then_normal ?_
  all_goals
    first | apply J.cond_dec rfl | apply J.cond rfl
    case' ht =>
      intro h
      try (first | (exfalso; omega) | (cases h; done) | (exfalso; simp at h; done) | subst h)
      all_goals
        rw [scanUp_go (p := fun x => Sort.ltInt x d0[a]!) (by omega) h] at hx3
        refine J.skip ?_
    case' hf =>
      intro h
      try (first | (exfalso; omega) | (cases h; done) | (exfalso; simp at h; done) | subst h)
      all_goals
        have st1 : b - 1 < x ∨ Sort.ltInt d0[x]! d0[a]! = false := by first | exact .inl (by omega) | exact .inr h
        rw [scanUp_stop (p := fun x => Sort.ltInt x d0[a]!) (by first | exact .inl (by omega) | exact .inr h)] at hx3
        rw [← hx3] at hres
        refine J.exit ?_
        refine JE.then_exit ?_
        refine JE.then_exit ?_
        refine JE.block_exit ?_
        refine JE.then_normal ?_
        refine J.seq ?_
        refine J.block ?_
        refine J.loop (α := Nat) (fun y => y ≤ b - 1 ∧ x ≤ y + 1 ∧ Sort.scanDown (fun x => !Sort.ltInt x d0[a]!) d0 x y = Sort.scanDown (fun x => !Sort.ltInt x d0[a]!) d0 x (b - 1)) (fun y => [(0, .slice (some ⟨g, 0, none⟩) n c), (1, .int .i64 a), (10, .int .i64 x), (11, .int .i64 y)]) (fun y => arU g d0 sp :: r) (fun y => y) (b - 1) ⟨Nat.le_refl _, by omega, rfl⟩ ⟨rfl, rfl, rfl, rfl, trivial⟩ (fun w h => h) ?_
        rintro y ⟨hy1, hy2, hy3⟩
        try dsimp only at hy1 hy2 hy3 ⊢
        refine J.seq ?_
        refine J.seq ?_
        by_cases hg : x ≤ y
        all_goals
          refine J.draw _ _ [(0, .q), (1, .q), (2, .q), (3, .q), (4, .q), (5, .q), (6, .q), (7, .q), (8, .q), (9, .q), (10, .q), (11, .q), (12, .q), (13, .q), (14, .q)] mixed (by kernel_rfl) (Split.nil) ?_
          refine JM.quiet rfl rfl rfl rfl (fun m => y_move rfl) ?_
          refine JM.quiet rfl rfl rfl rfl (fun m => y_move rfl) ?_
          first | refine JM.quiet rfl rfl rfl rfl (fun m => y_leqB rfl rfl (decide_eq_true (by omega))) ?_ | refine JM.quiet rfl rfl rfl rfl (fun m => y_leqB rfl rfl (decide_eq_false (by omega))) ?_
          refine JM.quiet rfl rfl rfl rfl (fun m => y_move rfl) ?_
          all_goals (first | refine JM.gskip rfl rfl rfl rfl rfl rfl rfl ?_ | refine JM.gskipU rfl rfl rfl rfl rfl rfl ?_ | refine JM.gquiet rfl rfl rfl rfl rfl rfl (fun m => y_move rfl) ?_)
          all_goals (first | refine JM.gskip rfl rfl rfl rfl rfl rfl rfl ?_ | refine JM.gskipU rfl rfl rfl rfl rfl rfl ?_ | refine JM.gquiet rfl rfl rfl rfl rfl rfl (fun m => y_move rfl) ?_)
          all_goals (first | refine JM.gskip rfl rfl rfl rfl rfl rfl rfl ?_ | refine JM.gskipU rfl rfl rfl rfl rfl rfl ?_ | refine JM.gquiet rfl rfl rfl rfl rfl rfl (fun m => y_indexAddr_slice hT rfl rfl rfl rfl rfl (by (first | omega | exact Nat.le_of_ble_eq_true rfl | decide | (simp; omega))) (by (first | omega | exact Nat.le_of_ble_eq_true rfl | decide | (simp; omega)))) ?_)
          all_goals (first | refine JM.gskip rfl rfl rfl rfl rfl rfl rfl ?_ | refine JM.gskipU rfl rfl rfl rfl rfl rfl ?_ | refine JM.gquiet rfl rfl rfl rfl rfl rfl (fun m => y_load1 hT rfl rfl rfl (Rd1.arr (i := (y)) (Pick.app m (by (repeat (first | exact Pick.head | apply Pick.tail | apply Pick.app)))) (by (first | assumption | omega | (simp only [Array.size_setIfInBounds]; omega))) (by exact arr_off rfl (by omega)))) ?_)
          all_goals (first | refine JM.gskip rfl rfl rfl rfl rfl rfl rfl ?_ | refine JM.gskipU rfl rfl rfl rfl rfl rfl ?_ | refine JM.gquiet rfl rfl rfl rfl rfl rfl (fun m => y_move rfl) ?_)
          all_goals (first | refine JM.gskip rfl rfl rfl rfl rfl rfl rfl ?_ | refine JM.gskipU rfl rfl rfl rfl rfl rfl ?_ | refine JM.gquiet rfl rfl rfl rfl rfl rfl (fun m => y_move rfl) ?_)
          all_goals (first | refine JM.gskip rfl rfl rfl rfl rfl rfl rfl ?_ | refine JM.gskipU rfl rfl rfl rfl rfl rfl ?_ | refine JM.gquiet rfl rfl rfl rfl rfl rfl (fun m => y_indexAddr_slice hT rfl rfl rfl rfl rfl (by (first | omega | exact Nat.le_of_ble_eq_true rfl | decide | (simp; omega))) (by (first | omega | exact Nat.le_of_ble_eq_true rfl | decide | (simp; omega)))) ?_)
          all_goals (first | refine JM.gskip rfl rfl rfl rfl rfl rfl rfl ?_ | refine JM.gskipU rfl rfl rfl rfl rfl rfl ?_ | refine JM.gquiet rfl rfl rfl rfl rfl rfl (fun m => y_load1 hT rfl rfl rfl (Rd1.arr (i := (a)) (Pick.app m (by (repeat (first | exact Pick.head | apply Pick.tail | apply Pick.app)))) (by (first | assumption | omega | (simp only [Array.size_setIfInBounds]; omega))) (by exact arr_off rfl (by omega)))) ?_)
          all_goals (first | refine JM.gskip rfl rfl rfl rfl rfl rfl rfl ?_ | refine JM.gskipU rfl rfl rfl rfl rfl rfl ?_ | refine JM.gquiet rfl rfl rfl rfl rfl rfl (fun m => y_callF e103 rfl (lessU E _ _ _)) ?_)
          all_goals (first | refine JM.gskip rfl rfl rfl rfl rfl rfl rfl ?_ | refine JM.gskipU rfl rfl rfl rfl rfl rfl ?_ | refine JM.gquiet rfl rfl rfl rfl rfl rfl (fun m => y_not rfl) ?_)
          all_goals refine JM.quiet rfl rfl rfl rfl (fun m => y_pick rfl rfl rfl) ?_
          all_goals refine JM.nil ?_
        all_goals refine JE.then_normal ?_
        all_goals
          first | apply J.cond_dec rfl | apply J.cond rfl
          case' ht =>
            intro h
            try (first | (exfalso; omega) | (cases h; done) | (exfalso; simp at h; done) | subst h)
            all_goals
              rw [scanDown_go (p := fun x => !Sort.ltInt x d0[a]!) (by omega) (by omega) h] at hy3
              refine J.skip ?_
          case' hf =>
            intro h
            try (first | (exfalso; omega) | (cases h; done) | (exfalso; simp at h; done) | subst h)
            all_goals
              have st2 : y < x ∨ Sort.ltInt d0[y]! d0[a]! = true := by first | exact .inl (by omega) | exact .inr (by simpa using h)
              rw [scanDown_stop (p := fun x => !Sort.ltInt x d0[a]!) (by first | exact .inl (by omega) | exact .inr h)] at hy3
              rw [← hy3] at hres
              refine J.exit ?_
              refine JE.then_exit ?_
              refine JE.then_exit ?_
              refine JE.block_exit ?_
              refine JE.then_normal ?_
              refine J.seq ?_
              refine J.seq ?_
              refine J.region ?_
              refine JL.step (y_move rfl) rfl rfl rfl (JL.step (y_move rfl) rfl rfl rfl (JL.step (y_gtr rfl rfl) rfl rfl rfl ?_))
              refine JL.nil ?_
              refine JE.then_normal ?_
              first | apply J.cond_dec rfl | apply J.cond rfl
              case' ht =>
                intro h
                try (first | (exfalso; omega) | (cases h; done) | (exfalso; simp at h; done) | subst h)
                all_goals
                  rw [if_pos (by omega)] at hres
                  refine J.seq ?_
                  refine J.draw _ _ [(0, .q), (1, .q), (2, .q), (3, .q), (4, .q), (5, .q), (6, .q), (8, .q), (9, .q), (10, .q), (7, .e), (11, .e), (12, .q), (13, .l), (14, .q), (15, .l)] mixed (by kernel_rfl) (Split.cons (Pick.head) (Split.nil)) ?_
                  refine JM.quiet rfl rfl rfl rfl (fun m => y_move rfl) ?_
                  refine JM.quiet rfl rfl rfl rfl (fun m => y_move rfl) ?_
                  refine JM.quiet rfl rfl rfl rfl (fun m => y_move rfl) ?_
                  refine JM.quiet rfl rfl rfl rfl (fun m => y_move rfl) ?_
                  refine JM.quiet rfl rfl rfl rfl (fun m => y_move rfl) ?_
                  refine JM.quiet rfl rfl rfl rfl (fun m => y_move rfl) ?_
                  refine JM.quiet rfl rfl rfl rfl (fun m => y_indexAddr_slice hT rfl rfl rfl rfl rfl (by (first | omega | exact Nat.le_of_ble_eq_true rfl | decide | (simp; omega))) (by (first | omega | exact Nat.le_of_ble_eq_true rfl | decide | (simp; omega)))) ?_
                  refine JM.quiet rfl rfl rfl rfl (fun m => y_move rfl) ?_
                  refine JM.quiet rfl rfl rfl rfl (fun m => y_move rfl) ?_
                  refine JM.quiet rfl rfl rfl rfl (fun m => y_indexAddr_slice hT rfl rfl rfl rfl rfl (by (first | omega | exact Nat.le_of_ble_eq_true rfl | decide | (simp; omega))) (by (first | omega | exact Nat.le_of_ble_eq_true rfl | decide | (simp; omega)))) ?_
                  refine JM.early rfl rfl rfl rfl (fun fr => y_load1 hT rfl rfl rfl (Rd1.arr (i := (a)) (by (repeat (first | exact Pick.head | apply Pick.tail | apply Pick.app))) (by (first | assumption | omega | (simp only [Array.size_setIfInBounds]; omega))) (by exact arr_off rfl (by omega)))) ?_
                  refine JM.early rfl rfl rfl rfl (fun fr => y_load1 hT rfl rfl rfl (Rd1.arr (i := (y)) (by (repeat (first | exact Pick.head | apply Pick.tail | apply Pick.app))) (by (first | assumption | omega | (simp only [Array.size_setIfInBounds]; omega))) (by exact arr_off rfl (by omega)))) ?_
                  refine JM.quiet rfl rfl rfl rfl (fun m => y_indexAddr_slice hT rfl rfl rfl rfl rfl (by (first | omega | exact Nat.le_of_ble_eq_true rfl | decide | (simp; omega))) (by (first | omega | exact Nat.le_of_ble_eq_true rfl | decide | (simp; omega)))) ?_
                  refine JM.loud rfl rfl (fun fr => l_storeArr (j := (y)) (u := d0[a]!) hT rfl rfl rfl rfl (fun _ => rfl) (by (repeat (first | exact Pick.head | apply Pick.tail | apply Pick.app))) (by (first | assumption | omega | (simp only [Array.size_setIfInBounds]; omega))) (by exact arr_off rfl (by omega)) (⟨[_], (by (repeat (first | exact Split.nil | exact Split.all | refine Split.cons Pick.head ?_))), ?_⟩))
                  refine JM.quiet rfl rfl rfl rfl (fun m => y_indexAddr_slice hT rfl rfl rfl rfl rfl (by (first | omega | exact Nat.le_of_ble_eq_true rfl | decide | (simp; omega))) (by (first | omega | exact Nat.le_of_ble_eq_true rfl | decide | (simp; omega)))) ?_
                  refine JM.loud rfl rfl (fun fr => l_storeArr (j := (a)) (u := d0[y]!) hT rfl rfl rfl rfl (fun _ => rfl) (by (repeat (first | exact Pick.head | apply Pick.tail | apply Pick.app))) (by (first | assumption | omega | (simp only [Array.size_setIfInBounds]; omega))) (by exact arr_off rfl (by omega)) (⟨[_], (by (repeat (first | exact Split.nil | exact Split.all | refine Split.cons Pick.head ?_))), ?_⟩))
                  refine JM.nil ?_
                  refine JE.then_normal ?_
                  refine J.seq ?_
                  refine J.region ?_
                  refine JL.step (y_move rfl) rfl rfl rfl (JL.step (y_assign rfl) rfl rfl rfl (JL.step (y_assign rfl) rfl rfl rfl ?_))
                  refine JL.nil ?_
                  refine JE.then_normal ?_
                  refine J.ret ?_
                  refine JE.then_ret ?_
                  refine JE.ret2 (.inl rfl) rfl rfl (by (first | exact RV.tmp rfl | exact RV.cell1 hT rfl rfl rfl (by (exact Rd1.row (by (repeat (first | exact Pick.head | apply Pick.tail | apply Pick.app))) (by rfl))) | exact RV.cellN hT rfl rfl rfl (by (first | exact RdN.rowAll (by (repeat (first | exact Pick.head | apply Pick.tail | apply Pick.app))) | exact RdN.own (by (repeat (first | exact Pick.head | apply Pick.tail | apply Pick.app))))) (by (first | rfl | assumption | (simp; done) | omega)))) (by (first | exact RV.tmp rfl | exact RV.cell1 hT rfl rfl rfl (by (exact Rd1.row (by (repeat (first | exact Pick.head | apply Pick.tail | apply Pick.app))) (by rfl))) | exact RV.cellN hT rfl rfl rfl (by (first | exact RdN.rowAll (by (repeat (first | exact Pick.head | apply Pick.tail | apply Pick.app))) | exact RdN.own (by (repeat (first | exact Pick.head | apply Pick.tail | apply Pick.app))))) (by (first | rfl | assumption | (simp; done) | omega)))) ?_
                  exact ⟨by rw [← hres], fun w h => by rw [← hres]; exact h⟩
              case' hf =>
                intro h
                try (first | (exfalso; omega) | (cases h; done) | (exfalso; simp at h; done) | subst h)
                all_goals
                  rw [if_neg (by omega)] at hres
                  have hne : ¬ x = y := by
                    rintro rfl
                    rcases st1 with q | q
                    · omega
                    · rcases st2 with q2 | q2
                      · omega
                      · rw [q] at q2; cases q2
                  refine J.skip ?_
              all_goals refine JE.then_normal ?_
              all_goals
                refine J.seq ?_
                refine J.draw _ _ [(0, .q), (1, .q), (2, .q), (3, .q), (4, .q), (5, .q), (6, .q), (8, .q), (9, .q), (10, .q), (7, .e), (11, .e), (12, .q), (13, .l), (14, .q), (15, .l)] mixed (by kernel_rfl) (Split.cons (Pick.head) (Split.nil)) ?_
                refine JM.quiet rfl rfl rfl rfl (fun m => y_move rfl) ?_
                refine JM.quiet rfl rfl rfl rfl (fun m => y_move rfl) ?_
                refine JM.quiet rfl rfl rfl rfl (fun m => y_move rfl) ?_
                refine JM.quiet rfl rfl rfl rfl (fun m => y_move rfl) ?_
                refine JM.quiet rfl rfl rfl rfl (fun m => y_move rfl) ?_
                refine JM.quiet rfl rfl rfl rfl (fun m => y_move rfl) ?_
                refine JM.quiet rfl rfl rfl rfl (fun m => y_indexAddr_slice hT rfl rfl rfl rfl rfl (by (first | omega | exact Nat.le_of_ble_eq_true rfl | decide | (simp; omega))) (by (first | omega | exact Nat.le_of_ble_eq_true rfl | decide | (simp; omega)))) ?_
                refine JM.quiet rfl rfl rfl rfl (fun m => y_move rfl) ?_
                refine JM.quiet rfl rfl rfl rfl (fun m => y_move rfl) ?_
                refine JM.quiet rfl rfl rfl rfl (fun m => y_indexAddr_slice hT rfl rfl rfl rfl rfl (by (first | omega | exact Nat.le_of_ble_eq_true rfl | decide | (simp; omega))) (by (first | omega | exact Nat.le_of_ble_eq_true rfl | decide | (simp; omega)))) ?_
                refine JM.early rfl rfl rfl rfl (fun fr => y_load1 hT rfl rfl rfl (Rd1.arr (i := (y)) (by (repeat (first | exact Pick.head | apply Pick.tail | apply Pick.app))) (by (first | assumption | omega | (simp only [Array.size_setIfInBounds]; omega))) (by exact arr_off rfl (by omega)))) ?_
                refine JM.early rfl rfl rfl rfl (fun fr => y_load1 hT rfl rfl rfl (Rd1.arr (i := (x)) (by (repeat (first | exact Pick.head | apply Pick.tail | apply Pick.app))) (by (first | assumption | omega | (simp only [Array.size_setIfInBounds]; omega))) (by exact arr_off rfl (by omega)))) ?_
                refine JM.quiet rfl rfl rfl rfl (fun m => y_indexAddr_slice hT rfl rfl rfl rfl rfl (by (first | omega | exact Nat.le_of_ble_eq_true rfl | decide | (simp; omega))) (by (first | omega | exact Nat.le_of_ble_eq_true rfl | decide | (simp; omega)))) ?_
                refine JM.loud rfl rfl (fun fr => l_storeArr (j := (x)) (u := d0[y]!) hT rfl rfl rfl rfl (fun _ => rfl) (by (repeat (first | exact Pick.head | apply Pick.tail | apply Pick.app))) (by (first | assumption | omega | (simp only [Array.size_setIfInBounds]; omega))) (by exact arr_off rfl (by omega)) (⟨[_], (by (repeat (first | exact Split.nil | exact Split.all | refine Split.cons Pick.head ?_))), ?_⟩))
                refine JM.quiet rfl rfl rfl rfl (fun m => y_indexAddr_slice hT rfl rfl rfl rfl rfl (by (first | omega | exact Nat.le_of_ble_eq_true rfl | decide | (simp; omega))) (by (first | omega | exact Nat.le_of_ble_eq_true rfl | decide | (simp; omega)))) ?_
                refine JM.loud rfl rfl (fun fr => l_storeArr (j := (y)) (u := d0[x]!) hT rfl rfl rfl rfl (fun _ => rfl) (by (repeat (first | exact Pick.head | apply Pick.tail | apply Pick.app))) (by (first | assumption | omega | (simp only [Array.size_setIfInBounds]; omega))) (by exact arr_off rfl (by omega)) (⟨[_], (by (repeat (first | exact Split.nil | exact Split.all | refine Split.cons Pick.head ?_))), ?_⟩))
                refine JM.nil ?_
                refine JE.then_normal ?_
                refine J.seq ?_
                refine J.region ?_
                refine JL.step (y_move rfl) rfl rfl rfl ?_
                refine JL.step (y_add rfl rfl (by (first | exact wrap_i64 (by omega) (by omega) | rfl))) rfl rfl rfl ?_
                refine JL.step (y_assign rfl) rfl rfl rfl ?_
                refine JL.nil ?_
                refine JE.then_normal ?_
                refine J.seq ?_
                refine J.region ?_
                refine JL.step (y_move rfl) rfl rfl rfl ?_
                refine JL.step (y_sub rfl rfl (by (first | exact wrap_i64 (by omega) (by omega) | rfl))) rfl rfl rfl ?_
                refine JL.step (y_assign rfl) rfl rfl rfl ?_
                refine JL.nil ?_
                refine JE.then_normal ?_
                refine J.seq ?_
                refine J.block ?_
                refine J.loop (α := Nat × Nat × Array Int) (fun s => a < s.1 ∧ s.1 ≤ b ∧ s.2.1 < b ∧ s.1 ≤ s.2.1 + 1 ∧ s.2.2.size = n ∧ Sort.partLoop Sort.ltInt a s.1 s.2.1 s.2.2 = Sort.partLoop Sort.ltInt a (x + 1) (y - 1) (Sort.swp d0 x y)) (fun s => [(0, .slice (some ⟨g, 0, none⟩) n c), (1, .int .i64 a), (10, .int .i64 s.1), (11, .int .i64 s.2.1)]) (fun s => arU g s.2.2 sp :: r) (fun s => s.2.1 + 1 - s.1) (x + 1, y - 1, Sort.swp d0 x y) ⟨by dsimp only; omega, by dsimp only; omega, by dsimp only; omega, by dsimp only; omega, by dsimp only; rw [swp_size]; exact hs0, rfl⟩ ⟨rfl, rfl, (congrArg (fun z => some (Value.int .i64 z)) (by first | omega | (dsimp only; omega))), (congrArg (fun z => some (Value.int .i64 z)) (by first | omega | (dsimp only; omega))), trivial⟩ (fun w h => h) ?_
                rintro ⟨i, j, d1⟩ ⟨hi1, hi2, hj1, hij, hs1, he1⟩
                try dsimp only at hi1 hi2 hj1 hij hs1 he1 ⊢
                rw [Sort.partLoop_eq] at he1
                refine J.block ?_
                refine J.seq ?_
                refine J.block ?_
                refine J.loop (α := Nat) (fun u => i ≤ u ∧ u ≤ j + 1 ∧ Sort.scanUp (fun x => Sort.ltInt x d1[a]!) d1 j u = Sort.scanUp (fun x => Sort.ltInt x d1[a]!) d1 j i) (fun u => [(0, .slice (some ⟨g, 0, none⟩) n c), (1, .int .i64 a), (10, .int .i64 u), (11, .int .i64 j)]) (fun u => arU g d1 sp :: r) (fun u => j + 1 - u) i ⟨Nat.le_refl _, hij, rfl⟩ ⟨rfl, rfl, rfl, rfl, trivial⟩ (fun w h => h) ?_
                rintro u ⟨hu1, hu2, hu3⟩
                try dsimp only at hu1 hu2 hu3 ⊢
                refine J.seq ?_
                refine J.seq ?_
                by_cases hg : u ≤ j
                all_goals
                  refine J.draw _ _ [(0, .q), (1, .q), (2, .q), (3, .q), (4, .q), (5, .q), (6, .q), (7, .q), (8, .q), (9, .q), (10, .q), (11, .q), (12, .q), (13, .q)] mixed (by kernel_rfl) (Split.nil) ?_
                  refine JM.quiet rfl rfl rfl rfl (fun m => y_move rfl) ?_
                  refine JM.quiet rfl rfl rfl rfl (fun m => y_move rfl) ?_
                  first | refine JM.quiet rfl rfl rfl rfl (fun m => y_leqB rfl rfl (decide_eq_true (by omega))) ?_ | refine JM.quiet rfl rfl rfl rfl (fun m => y_leqB rfl rfl (decide_eq_false (by omega))) ?_
                  refine JM.quiet rfl rfl rfl rfl (fun m => y_move rfl) ?_
                  all_goals (first | refine JM.gskip rfl rfl rfl rfl rfl rfl rfl ?_ | refine JM.gskipU rfl rfl rfl rfl rfl rfl ?_ | refine JM.gquiet rfl rfl rfl rfl rfl rfl (fun m => y_move rfl) ?_)
                  all_goals (first | refine JM.gskip rfl rfl rfl rfl rfl rfl rfl ?_ | refine JM.gskipU rfl rfl rfl rfl rfl rfl ?_ | refine JM.gquiet rfl rfl rfl rfl rfl rfl (fun m => y_move rfl) ?_)
                  all_goals (first | refine JM.gskip rfl rfl rfl rfl rfl rfl rfl ?_ | refine JM.gskipU rfl rfl rfl rfl rfl rfl ?_ | refine JM.gquiet rfl rfl rfl rfl rfl rfl (fun m => y_indexAddr_slice hT rfl rfl rfl rfl rfl (by (first | omega | exact Nat.le_of_ble_eq_true rfl | decide | (simp; omega))) (by (first | omega | exact Nat.le_of_ble_eq_true rfl | decide | (simp; omega)))) ?_)
                  all_goals (first | refine JM.gskip rfl rfl rfl rfl rfl rfl rfl ?_ | refine JM.gskipU rfl rfl rfl rfl rfl rfl ?_ | refine JM.gquiet rfl rfl rfl rfl rfl rfl (fun m => y_load1 hT rfl rfl rfl (Rd1.arr (i := (u)) (Pick.app m (by (repeat (first | exact Pick.head | apply Pick.tail | apply Pick.app)))) (by (first | assumption | omega | (simp only [Array.size_setIfInBounds]; omega))) (by exact arr_off rfl (by omega)))) ?_)
                  all_goals (first | refine JM.gskip rfl rfl rfl rfl rfl rfl rfl ?_ | refine JM.gskipU rfl rfl rfl rfl rfl rfl ?_ | refine JM.gquiet rfl rfl rfl rfl rfl rfl (fun m => y_move rfl) ?_)
                  all_goals (first | refine JM.gskip rfl rfl rfl rfl rfl rfl rfl ?_ | refine JM.gskipU rfl rfl rfl rfl rfl rfl ?_ | refine JM.gquiet rfl rfl rfl rfl rfl rfl (fun m => y_move rfl) ?_)
                  all_goals (first | refine JM.gskip rfl rfl rfl rfl rfl rfl rfl ?_ | refine JM.gskipU rfl rfl rfl rfl rfl rfl ?_ | refine JM.gquiet rfl rfl rfl rfl rfl rfl (fun m => y_indexAddr_slice hT rfl rfl rfl rfl rfl (by (first | omega | exact Nat.le_of_ble_eq_true rfl | decide | (simp; omega))) (by (first | omega | exact Nat.le_of_ble_eq_true rfl | decide | (simp; omega)))) ?_)
                  all_goals (first | refine JM.gskip rfl rfl rfl rfl rfl rfl rfl ?_ | refine JM.gskipU rfl rfl rfl rfl rfl rfl ?_ | refine JM.gquiet rfl rfl rfl rfl rfl rfl (fun m => y_load1 hT rfl rfl rfl (Rd1.arr (i := (a)) (Pick.app m (by (repeat (first | exact Pick.head | apply Pick.tail | apply Pick.app)))) (by (first | assumption | omega | (simp only [Array.size_setIfInBounds]; omega))) (by exact arr_off rfl (by omega)))) ?_)
                  all_goals (first | refine JM.gskip rfl rfl rfl rfl rfl rfl rfl ?_ | refine JM.gskipU rfl rfl rfl rfl rfl rfl ?_ | refine JM.gquiet rfl rfl rfl rfl rfl rfl (fun m => y_callF e103 rfl (lessU E _ _ _)) ?_)
                  all_goals refine JM.quiet rfl rfl rfl rfl (fun m => y_pick rfl rfl rfl) ?_
                  all_goals refine JM.nil ?_
                all_goals refine JE.then_normal ?_
                all_goals
                  first | apply J.cond_dec rfl | apply J.cond rfl
                  case' ht =>
                    intro h
                    try (first | (exfalso; omega) | (cases h; done) | (exfalso; simp at h; done) | subst h)
                    all_goals
                      rw [scanUp_go (p := fun x => Sort.ltInt x d1[a]!) (by omega) h] at hu3
                      refine J.skip ?_
                  case' hf =>
                    intro h
                    try (first | (exfalso; omega) | (cases h; done) | (exfalso; simp at h; done) | subst h)
                    all_goals
                      have st3 : j < u ∨ Sort.ltInt d1[u]! d1[a]! = false := by first | exact .inl (by omega) | exact .inr h
                      rw [scanUp_stop (p := fun x => Sort.ltInt x d1[a]!) (by first | exact .inl (by omega) | exact .inr h)] at hu3
                      rw [← hu3] at he1
                      refine J.exit ?_
                      refine JE.then_exit ?_
                      refine JE.then_exit ?_
                      refine JE.block_exit ?_
                      refine JE.then_normal ?_
                      refine J.seq ?_
                      refine J.block ?_
                      refine J.loop (α := Nat) (fun w => w ≤ j ∧ u ≤ w + 1 ∧ Sort.scanDown (fun x => !Sort.ltInt x d1[a]!) d1 u w = Sort.scanDown (fun x => !Sort.ltInt x d1[a]!) d1 u j) (fun w => [(0, .slice (some ⟨g, 0, none⟩) n c), (1, .int .i64 a), (10, .int .i64 u), (11, .int .i64 w)]) (fun w => arU g d1 sp :: r) (fun w => w) j ⟨Nat.le_refl _, hu2, rfl⟩ ⟨rfl, rfl, rfl, rfl, trivial⟩ (fun w h => h) ?_
                      rintro v ⟨hv1, hv2, hv3⟩
                      try dsimp only at hv1 hv2 hv3 ⊢
                      refine J.seq ?_
                      refine J.seq ?_
                      by_cases hg : u ≤ v
                      all_goals
                        refine J.draw _ _ [(0, .q), (1, .q), (2, .q), (3, .q), (4, .q), (5, .q), (6, .q), (7, .q), (8, .q), (9, .q), (10, .q), (11, .q), (12, .q), (13, .q), (14, .q)] mixed (by kernel_rfl) (Split.nil) ?_
                        refine JM.quiet rfl rfl rfl rfl (fun m => y_move rfl) ?_
                        refine JM.quiet rfl rfl rfl rfl (fun m => y_move rfl) ?_
                        first | refine JM.quiet rfl rfl rfl rfl (fun m => y_leqB rfl rfl (decide_eq_true (by omega))) ?_ | refine JM.quiet rfl rfl rfl rfl (fun m => y_leqB rfl rfl (decide_eq_false (by omega))) ?_
                        refine JM.quiet rfl rfl rfl rfl (fun m => y_move rfl) ?_
                        all_goals (first | refine JM.gskip rfl rfl rfl rfl rfl rfl rfl ?_ | refine JM.gskipU rfl rfl rfl rfl rfl rfl ?_ | refine JM.gquiet rfl rfl rfl rfl rfl rfl (fun m => y_move rfl) ?_)
                        all_goals (first | refine JM.gskip rfl rfl rfl rfl rfl rfl rfl ?_ | refine JM.gskipU rfl rfl rfl rfl rfl rfl ?_ | refine JM.gquiet rfl rfl rfl rfl rfl rfl (fun m => y_move rfl) ?_)
                        all_goals (first | refine JM.gskip rfl rfl rfl rfl rfl rfl rfl ?_ | refine JM.gskipU rfl rfl rfl rfl rfl rfl ?_ | refine JM.gquiet rfl rfl rfl rfl rfl rfl (fun m => y_indexAddr_slice hT rfl rfl rfl rfl rfl (by (first | omega | exact Nat.le_of_ble_eq_true rfl | decide | (simp; omega))) (by (first | omega | exact Nat.le_of_ble_eq_true rfl | decide | (simp; omega)))) ?_)
                        all_goals (first | refine JM.gskip rfl rfl rfl rfl rfl rfl rfl ?_ | refine JM.gskipU rfl rfl rfl rfl rfl rfl ?_ | refine JM.gquiet rfl rfl rfl rfl rfl rfl (fun m => y_load1 hT rfl rfl rfl (Rd1.arr (i := (v)) (Pick.app m (by (repeat (first | exact Pick.head | apply Pick.tail | apply Pick.app)))) (by (first | assumption | omega | (simp only [Array.size_setIfInBounds]; omega))) (by exact arr_off rfl (by omega)))) ?_)
                        all_goals (first | refine JM.gskip rfl rfl rfl rfl rfl rfl rfl ?_ | refine JM.gskipU rfl rfl rfl rfl rfl rfl ?_ | refine JM.gquiet rfl rfl rfl rfl rfl rfl (fun m => y_move rfl) ?_)
                        all_goals (first | refine JM.gskip rfl rfl rfl rfl rfl rfl rfl ?_ | refine JM.gskipU rfl rfl rfl rfl rfl rfl ?_ | refine JM.gquiet rfl rfl rfl rfl rfl rfl (fun m => y_move rfl) ?_)
                        all_goals (first | refine JM.gskip rfl rfl rfl rfl rfl rfl rfl ?_ | refine JM.gskipU rfl rfl rfl rfl rfl rfl ?_ | refine JM.gquiet rfl rfl rfl rfl rfl rfl (fun m => y_indexAddr_slice hT rfl rfl rfl rfl rfl (by (first | omega | exact Nat.le_of_ble_eq_true rfl | decide | (simp; omega))) (by (first | omega | exact Nat.le_of_ble_eq_true rfl | decide | (simp; omega)))) ?_)
                        all_goals (first | refine JM.gskip rfl rfl rfl rfl rfl rfl rfl ?_ | refine JM.gskipU rfl rfl rfl rfl rfl rfl ?_ | refine JM.gquiet rfl rfl rfl rfl rfl rfl (fun m => y_load1 hT rfl rfl rfl (Rd1.arr (i := (a)) (Pick.app m (by (repeat (first | exact Pick.head | apply Pick.tail | apply Pick.app)))) (by (first | assumption | omega | (simp only [Array.size_setIfInBounds]; omega))) (by exact arr_off rfl (by omega)))) ?_)
                        all_goals (first | refine JM.gskip rfl rfl rfl rfl rfl rfl rfl ?_ | refine JM.gskipU rfl rfl rfl rfl rfl rfl ?_ | refine JM.gquiet rfl rfl rfl rfl rfl rfl (fun m => y_callF e103 rfl (lessU E _ _ _)) ?_)
                        all_goals (first | refine JM.gskip rfl rfl rfl rfl rfl rfl rfl ?_ | refine JM.gskipU rfl rfl rfl rfl rfl rfl ?_ | refine JM.gquiet rfl rfl rfl rfl rfl rfl (fun m => y_not rfl) ?_)
                        all_goals refine JM.quiet rfl rfl rfl rfl (fun m => y_pick rfl rfl rfl) ?_
                        all_goals refine JM.nil ?_
                      all_goals refine JE.then_normal ?_
                      all_goals
                        first | apply J.cond_dec rfl | apply J.cond rfl
                        case' ht =>
                          intro h
                          try (first | (exfalso; omega) | (cases h; done) | (exfalso; simp at h; done) | subst h)
                          all_goals
                            rw [scanDown_go (p := fun x => !Sort.ltInt x d1[a]!) (by omega) (by omega) h] at hv3
                            refine J.skip ?_
                        case' hf =>
                          intro h
                          try (first | (exfalso; omega) | (cases h; done) | (exfalso; simp at h; done) | subst h)
                          all_goals
                            have st4 : v < u ∨ Sort.ltInt d1[v]! d1[a]! = true := by first | exact .inl (by omega) | exact .inr (by simpa using h)
                            rw [scanDown_stop (p := fun x => !Sort.ltInt x d1[a]!) (by first | exact .inl (by omega) | exact .inr h)] at hv3
                            rw [← hv3] at he1
                            refine J.exit ?_
                            refine JE.then_exit ?_
                            refine JE.then_exit ?_
                            refine JE.block_exit ?_
                            refine JE.then_normal ?_
                            refine J.seq ?_
                            refine J.seq ?_
                            refine J.region ?_
                            refine JL.step (y_move rfl) rfl rfl rfl (JL.step (y_move rfl) rfl rfl rfl (JL.step (y_gtr rfl rfl) rfl rfl rfl ?_))
                            refine JL.nil ?_
                            refine JE.then_normal ?_
                            first | apply J.cond_dec rfl | apply J.cond rfl
                            case' ht =>
                              intro h
                              try (first | (exfalso; omega) | (cases h; done) | (exfalso; simp at h; done) | subst h)
                              all_goals
                                rw [if_pos (by omega)] at he1
                                rw [← he1] at hres
                                refine J.exit ?_
                                refine JE.then_exit ?_
                                refine JE.block_past rfl ?_
                                refine JE.then_exit ?_
                                refine JE.block_exit ?_
                                refine JE.then_normal ?_
                                refine J.seq ?_
                                refine J.draw _ _ [(0, .q), (1, .q), (2, .q), (3, .q), (4, .q), (5, .q), (6, .q), (8, .q), (9, .q), (10, .q), (7, .e), (11, .e), (12, .q), (13, .l), (14, .q), (15, .l)] mixed (by kernel_rfl) (Split.cons (Pick.head) (Split.nil)) ?_
                                refine JM.quiet rfl rfl rfl rfl (fun m => y_move rfl) ?_
                                refine JM.quiet rfl rfl rfl rfl (fun m => y_move rfl) ?_
                                refine JM.quiet rfl rfl rfl rfl (fun m => y_move rfl) ?_
                                refine JM.quiet rfl rfl rfl rfl (fun m => y_move rfl) ?_
                                refine JM.quiet rfl rfl rfl rfl (fun m => y_move rfl) ?_
                                refine JM.quiet rfl rfl rfl rfl (fun m => y_move rfl) ?_
                                refine JM.quiet rfl rfl rfl rfl (fun m => y_indexAddr_slice hT rfl rfl rfl rfl rfl (by (first | omega | exact Nat.le_of_ble_eq_true rfl | decide | (simp; omega))) (by (first | omega | exact Nat.le_of_ble_eq_true rfl | decide | (simp; omega)))) ?_
                                refine JM.quiet rfl rfl rfl rfl (fun m => y_move rfl) ?_
                                refine JM.quiet rfl rfl rfl rfl (fun m => y_move rfl) ?_
                                refine JM.quiet rfl rfl rfl rfl (fun m => y_indexAddr_slice hT rfl rfl rfl rfl rfl (by (first | omega | exact Nat.le_of_ble_eq_true rfl | decide | (simp; omega))) (by (first | omega | exact Nat.le_of_ble_eq_true rfl | decide | (simp; omega)))) ?_
                                refine JM.early rfl rfl rfl rfl (fun fr => y_load1 hT rfl rfl rfl (Rd1.arr (i := (a)) (by (repeat (first | exact Pick.head | apply Pick.tail | apply Pick.app))) (by (first | assumption | omega | (simp only [Array.size_setIfInBounds]; omega))) (by exact arr_off rfl (by omega)))) ?_
                                refine JM.early rfl rfl rfl rfl (fun fr => y_load1 hT rfl rfl rfl (Rd1.arr (i := (v)) (by (repeat (first | exact Pick.head | apply Pick.tail | apply Pick.app))) (by (first | assumption | omega | (simp only [Array.size_setIfInBounds]; omega))) (by exact arr_off rfl (by omega)))) ?_
                                refine JM.quiet rfl rfl rfl rfl (fun m => y_indexAddr_slice hT rfl rfl rfl rfl rfl (by (first | omega | exact Nat.le_of_ble_eq_true rfl | decide | (simp; omega))) (by (first | omega | exact Nat.le_of_ble_eq_true rfl | decide | (simp; omega)))) ?_
                                refine JM.loud rfl rfl (fun fr => l_storeArr (j := (v)) (u := d1[a]!) hT rfl rfl rfl rfl (fun _ => rfl) (by (repeat (first | exact Pick.head | apply Pick.tail | apply Pick.app))) (by (first | assumption | omega | (simp only [Array.size_setIfInBounds]; omega))) (by exact arr_off rfl (by omega)) (⟨[_], (by (repeat (first | exact Split.nil | exact Split.all | refine Split.cons Pick.head ?_))), ?_⟩))
                                refine JM.quiet rfl rfl rfl rfl (fun m => y_indexAddr_slice hT rfl rfl rfl rfl rfl (by (first | omega | exact Nat.le_of_ble_eq_true rfl | decide | (simp; omega))) (by (first | omega | exact Nat.le_of_ble_eq_true rfl | decide | (simp; omega)))) ?_
                                refine JM.loud rfl rfl (fun fr => l_storeArr (j := (a)) (u := d1[v]!) hT rfl rfl rfl rfl (fun _ => rfl) (by (repeat (first | exact Pick.head | apply Pick.tail | apply Pick.app))) (by (first | assumption | omega | (simp only [Array.size_setIfInBounds]; omega))) (by exact arr_off rfl (by omega)) (⟨[_], (by (repeat (first | exact Split.nil | exact Split.all | refine Split.cons Pick.head ?_))), ?_⟩))
                                refine JM.nil ?_
                                refine JE.then_normal ?_
                                refine J.seq ?_
                                refine J.region ?_
                                refine JL.step (y_move rfl) rfl rfl rfl (JL.step (y_assign rfl) rfl rfl rfl (JL.step (y_assign rfl) rfl rfl rfl ?_))
                                refine JL.nil ?_
                                refine JE.then_normal ?_
                                refine J.ret ?_
                                refine JE.ret2 (.inl rfl) rfl rfl (by (first | exact RV.tmp rfl | exact RV.cell1 hT rfl rfl rfl (by (exact Rd1.row (by (repeat (first | exact Pick.head | apply Pick.tail | apply Pick.app))) (by rfl))) | exact RV.cellN hT rfl rfl rfl (by (first | exact RdN.rowAll (by (repeat (first | exact Pick.head | apply Pick.tail | apply Pick.app))) | exact RdN.own (by (repeat (first | exact Pick.head | apply Pick.tail | apply Pick.app))))) (by (first | rfl | assumption | (simp; done) | omega)))) (by (first | exact RV.tmp rfl | exact RV.cell1 hT rfl rfl rfl (by (exact Rd1.row (by (repeat (first | exact Pick.head | apply Pick.tail | apply Pick.app))) (by rfl))) | exact RV.cellN hT rfl rfl rfl (by (first | exact RdN.rowAll (by (repeat (first | exact Pick.head | apply Pick.tail | apply Pick.app))) | exact RdN.own (by (repeat (first | exact Pick.head | apply Pick.tail | apply Pick.app))))) (by (first | rfl | assumption | (simp; done) | omega)))) ?_
                                exact ⟨by rw [← hres], fun w h => by rw [← hres]; exact h⟩
                            case' hf =>
                              intro h
                              try (first | (exfalso; omega) | (cases h; done) | (exfalso; simp at h; done) | subst h)
                              all_goals
                                rw [if_neg (by omega)] at he1
                                have hne : ¬ u = v := by
                                  rintro rfl
                                  rcases st3 with q | q
                                  · omega
                                  · rcases st4 with q2 | q2
                                    · omega
                                    · rw [q] at q2; cases q2
                                refine J.skip ?_
                            all_goals refine JE.then_normal ?_
                            all_goals
                              refine J.seq ?_
                              refine J.draw _ _ [(0, .q), (1, .q), (2, .q), (3, .q), (4, .q), (5, .q), (6, .q), (8, .q), (9, .q), (10, .q), (7, .e), (11, .e), (12, .q), (13, .l), (14, .q), (15, .l)] mixed (by kernel_rfl) (Split.cons (Pick.head) (Split.nil)) ?_
                              refine JM.quiet rfl rfl rfl rfl (fun m => y_move rfl) ?_
                              refine JM.quiet rfl rfl rfl rfl (fun m => y_move rfl) ?_
                              refine JM.quiet rfl rfl rfl rfl (fun m => y_move rfl) ?_
                              refine JM.quiet rfl rfl rfl rfl (fun m => y_move rfl) ?_
                              refine JM.quiet rfl rfl rfl rfl (fun m => y_move rfl) ?_
                              refine JM.quiet rfl rfl rfl rfl (fun m => y_move rfl) ?_
                              refine JM.quiet rfl rfl rfl rfl (fun m => y_indexAddr_slice hT rfl rfl rfl rfl rfl (by (first | omega | exact Nat.le_of_ble_eq_true rfl | decide | (simp; omega))) (by (first | omega | exact Nat.le_of_ble_eq_true rfl | decide | (simp; omega)))) ?_
                              refine JM.quiet rfl rfl rfl rfl (fun m => y_move rfl) ?_
                              refine JM.quiet rfl rfl rfl rfl (fun m => y_move rfl) ?_
                              refine JM.quiet rfl rfl rfl rfl (fun m => y_indexAddr_slice hT rfl rfl rfl rfl rfl (by (first | omega | exact Nat.le_of_ble_eq_true rfl | decide | (simp; omega))) (by (first | omega | exact Nat.le_of_ble_eq_true rfl | decide | (simp; omega)))) ?_
                              refine JM.early rfl rfl rfl rfl (fun fr => y_load1 hT rfl rfl rfl (Rd1.arr (i := (v)) (by (repeat (first | exact Pick.head | apply Pick.tail | apply Pick.app))) (by (first | assumption | omega | (simp only [Array.size_setIfInBounds]; omega))) (by exact arr_off rfl (by omega)))) ?_
                              refine JM.early rfl rfl rfl rfl (fun fr => y_load1 hT rfl rfl rfl (Rd1.arr (i := (u)) (by (repeat (first | exact Pick.head | apply Pick.tail | apply Pick.app))) (by (first | assumption | omega | (simp only [Array.size_setIfInBounds]; omega))) (by exact arr_off rfl (by omega)))) ?_
                              refine JM.quiet rfl rfl rfl rfl (fun m => y_indexAddr_slice hT rfl rfl rfl rfl rfl (by (first | omega | exact Nat.le_of_ble_eq_true rfl | decide | (simp; omega))) (by (first | omega | exact Nat.le_of_ble_eq_true rfl | decide | (simp; omega)))) ?_
                              refine JM.loud rfl rfl (fun fr => l_storeArr (j := (u)) (u := d1[v]!) hT rfl rfl rfl rfl (fun _ => rfl) (by (repeat (first | exact Pick.head | apply Pick.tail | apply Pick.app))) (by (first | assumption | omega | (simp only [Array.size_setIfInBounds]; omega))) (by exact arr_off rfl (by omega)) (⟨[_], (by (repeat (first | exact Split.nil | exact Split.all | refine Split.cons Pick.head ?_))), ?_⟩))
                              refine JM.quiet rfl rfl rfl rfl (fun m => y_indexAddr_slice hT rfl rfl rfl rfl rfl (by (first | omega | exact Nat.le_of_ble_eq_true rfl | decide | (simp; omega))) (by (first | omega | exact Nat.le_of_ble_eq_true rfl | decide | (simp; omega)))) ?_
                              refine JM.loud rfl rfl (fun fr => l_storeArr (j := (v)) (u := d1[u]!) hT rfl rfl rfl rfl (fun _ => rfl) (by (repeat (first | exact Pick.head | apply Pick.tail | apply Pick.app))) (by (first | assumption | omega | (simp only [Array.size_setIfInBounds]; omega))) (by exact arr_off rfl (by omega)) (⟨[_], (by (repeat (first | exact Split.nil | exact Split.all | refine Split.cons Pick.head ?_))), ?_⟩))
                              refine JM.nil ?_
                              refine JE.then_normal ?_
                              refine J.seq ?_
                              refine J.region ?_
                              refine JL.step (y_move rfl) rfl rfl rfl ?_
                              refine JL.step (y_add rfl rfl (by (first | exact wrap_i64 (by omega) (by omega) | rfl))) rfl rfl rfl ?_
                              refine JL.step (y_assign rfl) rfl rfl rfl ?_
                              refine JL.nil ?_
                              refine JE.then_normal ?_
                              refine J.region ?_
                              refine JL.step (y_move rfl) rfl rfl rfl ?_
                              refine JL.step (y_sub rfl rfl (by (first | exact wrap_i64 (by omega) (by omega) | rfl))) rfl rfl rfl ?_
                              refine JL.step (y_assign rfl) rfl rfl rfl ?_
                              refine JL.nil ?_
                            all_goals
                              refine JE.block_normal ?_
                              exact JE.round (s := (i, j, d1)) (u + 1, v - 1, Sort.swp d1 u v) ⟨by dsimp only; omega, by dsimp only; omega, by dsimp only; omega, by dsimp only; omega, by dsimp only; rw [swp_size]; exact hs1, he1⟩ ⟨rfl, rfl, (congrArg (fun z => some (Value.int .i64 z)) (by first | omega | (dsimp only; omega))), (congrArg (fun z => some (Value.int .i64 z)) (by first | omega | (dsimp only; omega))), trivial⟩ (fun w h => h) (by dsimp only; omega)
                      all_goals refine JE.then_normal ?_
                      all_goals
                        refine J.block ?_
                        refine J.region ?_
                        refine JL.step (y_move rfl) rfl rfl rfl ?_
                        refine JL.step (y_sub rfl rfl (by (first | exact wrap_i64 (by omega) (by omega) | rfl))) rfl rfl rfl ?_
                        refine JL.step (y_assign rfl) rfl rfl rfl ?_
                        refine JL.nil ?_
                        refine JE.block_normal ?_
                      all_goals
                        exact JE.round (s := v) (v - 1) ⟨by omega, by omega, hv3⟩ ⟨rfl, rfl, rfl, (congrArg (fun z => some (Value.int .i64 z)) (by first | omega | (dsimp only; omega))), trivial⟩ (fun w h => h) (by omega)
                all_goals refine JE.then_normal ?_
                all_goals
                  refine J.block ?_
                  refine J.region ?_
                  refine JL.step (y_move rfl) rfl rfl rfl ?_
                  refine JL.step (y_add rfl rfl (by (first | exact wrap_i64 (by omega) (by omega) | rfl))) rfl rfl rfl ?_
                  refine JL.step (y_assign rfl) rfl rfl rfl ?_
                  refine JL.nil ?_
                  refine JE.block_normal ?_
                all_goals
                  exact JE.round (s := u) (u + 1) ⟨by omega, by omega, hu3⟩ ⟨rfl, rfl, (congrArg (fun z => some (Value.int .i64 z)) (by first | omega | (dsimp only; omega))), rfl, trivial⟩ (fun w h => h) (by omega)
        all_goals refine JE.then_normal ?_
        all_goals
          refine J.block ?_
          refine J.region ?_
          refine JL.step (y_move rfl) rfl rfl rfl ?_
          refine JL.step (y_sub rfl rfl (by (first | exact wrap_i64 (by omega) (by omega) | rfl))) rfl rfl rfl ?_
          refine JL.step (y_assign rfl) rfl rfl rfl ?_
          refine JL.nil ?_
          refine JE.block_normal ?_
        all_goals
          exact JE.round (s := y) (y - 1) ⟨by omega, by omega, hy3⟩ ⟨rfl, rfl, rfl, (congrArg (fun z => some (Value.int .i64 z)) (by first | omega | (dsimp only; omega))), trivial⟩ (fun w h => h) (by omega)
  all_goals refine JE.then_normal ?_
  all_goals
    refine J.block ?_
    refine J.region ?_
    refine JL.step (y_move rfl) rfl rfl rfl ?_
    refine JL.step (y_add rfl rfl (by (first | exact wrap_i64 (by omega) (by omega) | rfl))) rfl rfl rfl ?_
    refine JL.step (y_assign rfl) rfl rfl rfl ?_
    refine JL.nil ?_
    refine JE.block_normal ?_
  all_goals
    exact JE.round (s := x) (x + 1) ⟨by omega, by omega, hx3⟩ ⟨rfl, rfl, (congrArg (fun z => some (Value.int .i64 z)) (by first | omega | (dsimp only; omega))), rfl, trivial⟩ (fun w h => h) (by omega)
end
end
section
open Go Go.SL
section
attribute [local irreducible] J JL JE JM LS Y Fc RV Code.wp wpList Code.wpIn wpListIn
attribute [local irreducible] Yc
attribute [local irreducible] Sort.ltInt
variable (E : World)
theorem pinsU (g c n a b : Nat) (ia ib : Int) (d : Array Int) (sp : List Value) (r : List HProp) (ea : ia = a) (eb : ib = b) (hn : d.size = n) (hab : a < b) (hb : b ≤ n) (h63 : n < 4611686018427387904) :
    Fc prog E 102 [.slice (some ⟨g, 0, none⟩) n c, .int .i64 ia, .int .i64 ib].toArray (arU g d sp :: r) (fun v l' => v = .bool (Sort.partialInsertionSort Sort.ltInt d a b).2 ∧ l' = arU g (Sort.partialInsertionSort Sort.ltInt d a b).1 sp :: r) := by
  refine Fc.eqs ?_
  subst ea eb
  generalize hres : Sort.partialInsertionSort Sort.ltInt d a b = res
  have hres : Sort.partialIns Sort.ltInt a b 5 (a + 1) d = res := hres
  refine Fc.of_body (c := ?codeC) Tryd.func102 ?hb Tryd.ntmps102 ?hl ?_
  case hb => exact rfl
  case hl => exact rfl
  refine J.seq ?_
  refine J.region ?_
  refine JL.step (y_assign rfl) rfl rfl rfl ?_
  refine JL.nil ?_
  refine JE.then_normal ?_
  refine J.seq ?_
  refine J.region ?_
  refine JL.step (y_move rfl) rfl rfl rfl ?_
  refine JL.step (y_add rfl rfl (by (first | exact wrap_i64 (by omega) (by omega) | rfl))) rfl rfl rfl ?_
  refine JL.step (y_assign rfl) rfl rfl rfl ?_
  refine JL.nil ?_
  refine JE.then_normal ?_
  refine J.seq ?_
  refine J.seq ?_
  refine J.region ?_
  refine JL.step (y_assign rfl) rfl rfl rfl ?_
  refine JL.nil ?_
  refine JE.then_normal ?_
  refine J.block ?_
  refine J.loop (α := Nat × Nat × Array Int) (fun s => s.1 ≤ 5 ∧ a + 1 ≤ s.2.1 ∧ s.2.1 ≤ b ∧ s.2.2.size = n ∧ Sort.partialIns Sort.ltInt a b s.1 s.2.1 s.2.2 = res) (fun s => [(0, .slice (some ⟨g, 0, none⟩) n c), (1, .int .i64 a), (2, .int .i64 b), (7, .int .i64 s.2.1), (8, .int .i64 (5 - (s.1 : Int)))]) (fun s => arU g s.2.2 sp :: r) (fun s => s.1) (5, a + 1, d) ⟨Nat.le_refl _, Nat.le_refl _, by dsimp only; omega, hn, hres⟩ ⟨rfl, rfl, rfl, (congrArg (fun z => some (Value.int .i64 z)) (by first | omega | (dsimp only; omega))), rfl, trivial⟩ (fun w h => h) ?_
  rintro ⟨s, i, d1⟩ ⟨hs5, hi1, hi2, hs1, he1⟩
  try dsimp only at hs5 hi1 hi2 hs1 he1 ⊢
  refine J.seq ?_
  refine J.seq ?_
  refine J.region ?_
  refine JL.step (y_move rfl) rfl rfl rfl (JL.step (y_lss rfl rfl) rfl rfl rfl ?_)
  refine JL.nil ?_
  refine JE.then_normal ?_
  first | apply J.cond_dec rfl | apply J.cond rfl
  case' ht =>
    intro h
    try (first | (exfalso; omega) | (cases h; done) | (exfalso; simp at h; done) | subst h)
    all_goals
      obtain ⟨k, hk⟩ : ∃ k, s = k + 1 := ⟨s - 1, by omega⟩
      rw [hk, Sort.partialIns_succ] at he1
      refine J.skip ?_
  case' hf =>
    intro h
    try (first | (exfalso; omega) | (cases h; done) | (exfalso; simp at h; done) | subst h)
    all_goals
      obtain rfl : s = 0 := by omega
      have he1 : (d1, false) = res := he1
      refine J.exit ?_
      refine JE.then_exit ?_
      refine JE.then_exit ?_
      refine JE.block_exit ?_
      refine JE.then_normal ?_
      refine J.seq ?_
      refine J.region ?_
      refine JL.step (y_assign rfl) rfl rfl rfl ?_
      refine JL.nil ?_
      refine JE.then_normal ?_
      refine J.ret ?_
      refine JE.ret1 (.inl rfl) rfl rfl (by (first | exact RV.tmp rfl | exact RV.cell1 hT rfl rfl rfl (by (exact Rd1.row (by (repeat (first | exact Pick.head | apply Pick.tail | apply Pick.app))) (by rfl))) | exact RV.cellN hT rfl rfl rfl (by (first | exact RdN.rowAll (by (repeat (first | exact Pick.head | apply Pick.tail | apply Pick.app))) | exact RdN.own (by (repeat (first | exact Pick.head | apply Pick.tail | apply Pick.app))))) (by (first | rfl | assumption | (simp; done) | omega)))) ?_
      exact ⟨by rw [← he1], fun w h => by rw [← he1]; exact h⟩
  all_goals refine JE.then_normal ?_
  all_goals
    refine J.seqK (α := Nat × Array Int) (fun q => a + 1 ≤ q.1 ∧ q.1 ≤ b ∧ q.2.size = n ∧ ∃ k, s = k + 1 ∧ Sort.partialIns Sort.ltInt a b k q.1 q.2 = res) (fun q => [(0, .slice (some ⟨g, 0, none⟩) n c), (1, .int .i64 a), (2, .int .i64 b), (7, .int .i64 q.1), (8, .int .i64 (5 - (s : Int)))]) (fun q => arU g q.2 sp :: r) ?hj4 (fun hk4 => ?hf4)
    case hf4 =>
      refine J.block ?_
      refine J.seq ?_
      refine J.block ?_
      refine J.loop (α := Nat) (fun x => i ≤ x ∧ x ≤ b ∧ Sort.scanSorted Sort.ltInt d1 b x = Sort.scanSorted Sort.ltInt d1 b i) (fun x => [(0, .slice (some ⟨g, 0, none⟩) n c), (1, .int .i64 a), (2, .int .i64 b), (7, .int .i64 x), (8, .int .i64 (5 - (s : Int)))]) (fun x => arU g d1 sp :: r) (fun x => b - x) i ⟨Nat.le_refl _, hi2, rfl⟩ ⟨rfl, rfl, rfl, rfl, rfl, trivial⟩ (fun w h => h) ?_
      rintro x ⟨hx1, hx2, hx3⟩
      try dsimp only at hx1 hx2 hx3 ⊢
      refine J.seq ?_
      refine J.seq ?_
      by_cases hg : x < b
      all_goals
        refine J.draw _ _ [(0, .q), (1, .q), (2, .q), (3, .q), (4, .q), (5, .q), (6, .q), (7, .q), (8, .q), (9, .q), (10, .q), (11, .q), (12, .q), (13, .q), (14, .q), (15, .q)] mixed (by kernel_rfl) (Split.nil) ?_
        refine JM.quiet rfl rfl rfl rfl (fun m => y_move rfl) ?_
        refine JM.quiet rfl rfl rfl rfl (fun m => y_move rfl) ?_
        first | refine JM.quiet rfl rfl rfl rfl (fun m => y_lssB rfl rfl (decide_eq_true (by omega))) ?_ | refine JM.quiet rfl rfl rfl rfl (fun m => y_lssB rfl rfl (decide_eq_false (by omega))) ?_
        refine JM.quiet rfl rfl rfl rfl (fun m => y_move rfl) ?_
        all_goals (first | refine JM.gskip rfl rfl rfl rfl rfl rfl rfl ?_ | refine JM.gskipU rfl rfl rfl rfl rfl rfl ?_ | refine JM.gquiet rfl rfl rfl rfl rfl rfl (fun m => y_move rfl) ?_)
        all_goals (first | refine JM.gskip rfl rfl rfl rfl rfl rfl rfl ?_ | refine JM.gskipU rfl rfl rfl rfl rfl rfl ?_ | refine JM.gquiet rfl rfl rfl rfl rfl rfl (fun m => y_move rfl) ?_)
        all_goals (first | refine JM.gskip rfl rfl rfl rfl rfl rfl rfl ?_ | refine JM.gskipU rfl rfl rfl rfl rfl rfl ?_ | refine JM.gquiet rfl rfl rfl rfl rfl rfl (fun m => y_indexAddr_slice hT rfl rfl rfl rfl rfl (by (first | omega | exact Nat.le_of_ble_eq_true rfl | decide | (simp; omega))) (by (first | omega | exact Nat.le_of_ble_eq_true rfl | decide | (simp; omega)))) ?_)
        all_goals (first | refine JM.gskip rfl rfl rfl rfl rfl rfl rfl ?_ | refine JM.gskipU rfl rfl rfl rfl rfl rfl ?_ | refine JM.gquiet rfl rfl rfl rfl rfl rfl (fun m => y_load1 hT rfl rfl rfl (Rd1.arr (i := (x)) (Pick.app m (by (repeat (first | exact Pick.head | apply Pick.tail | apply Pick.app)))) (by (first | assumption | omega | (simp only [Array.size_setIfInBounds]; omega))) (by exact arr_off rfl (by omega)))) ?_)
        all_goals (first | refine JM.gskip rfl rfl rfl rfl rfl rfl rfl ?_ | refine JM.gskipU rfl rfl rfl rfl rfl rfl ?_ | refine JM.gquiet rfl rfl rfl rfl rfl rfl (fun m => y_move rfl) ?_)
        all_goals (first | refine JM.gskip rfl rfl rfl rfl rfl rfl rfl ?_ | refine JM.gskipU rfl rfl rfl rfl rfl rfl ?_ | refine JM.gquiet rfl rfl rfl rfl rfl rfl (fun m => y_move rfl) ?_)
        all_goals (first | refine JM.gskip rfl rfl rfl rfl rfl rfl rfl ?_ | refine JM.gskipU rfl rfl rfl rfl rfl rfl ?_ | refine JM.gquiet rfl rfl rfl rfl rfl rfl (fun m => y_sub rfl rfl (by (first | exact wrap_i64 (by omega) (by omega) | rfl))) ?_)
        all_goals (first | refine JM.gskip rfl rfl rfl rfl rfl rfl rfl ?_ | refine JM.gskipU rfl rfl rfl rfl rfl rfl ?_ | refine JM.gquiet rfl rfl rfl rfl rfl rfl (fun m => y_indexAddr_slice hT rfl rfl rfl rfl rfl (by (first | omega | exact Nat.le_of_ble_eq_true rfl | decide | (simp; omega))) (by (first | omega | exact Nat.le_of_ble_eq_true rfl | decide | (simp; omega)))) ?_)
        all_goals (first | refine JM.gskip rfl rfl rfl rfl rfl rfl rfl ?_ | refine JM.gskipU rfl rfl rfl rfl rfl rfl ?_ | refine JM.gquiet rfl rfl rfl rfl rfl rfl (fun m => y_load1 hT rfl rfl rfl (Rd1.arr (i := (x - 1)) (Pick.app m (by (repeat (first | exact Pick.head | apply Pick.tail | apply Pick.app)))) (by (first | assumption | omega | (simp only [Array.size_setIfInBounds]; omega))) (by exact arr_off rfl (by omega)))) ?_)
        all_goals (first | refine JM.gskip rfl rfl rfl rfl rfl rfl rfl ?_ | refine JM.gskipU rfl rfl rfl rfl rfl rfl ?_ | refine JM.gquiet rfl rfl rfl rfl rfl rfl (fun m => y_callF e103 rfl (lessU E _ _ _)) ?_)
        all_goals (first | refine JM.gskip rfl rfl rfl rfl rfl rfl rfl ?_ | refine JM.gskipU rfl rfl rfl rfl rfl rfl ?_ | refine JM.gquiet rfl rfl rfl rfl rfl rfl (fun m => y_not rfl) ?_)
        all_goals refine JM.quiet rfl rfl rfl rfl (fun m => y_pick rfl rfl rfl) ?_
        all_goals refine JM.nil ?_
      all_goals refine JE.then_normal ?_
      all_goals
        first | apply J.cond_dec rfl | apply J.cond rfl
        case' ht =>
          intro h
          try (first | (exfalso; omega) | (cases h; done) | (exfalso; simp at h; done) | subst h)
          all_goals
            rw [scanSorted_go (by omega) (by simpa using h)] at hx3
            refine J.skip ?_
        case' hf =>
          intro h
          try (first | (exfalso; omega) | (cases h; done) | (exfalso; simp at h; done) | subst h)
          all_goals
            rw [scanSorted_stop (by first | exact .inl (by omega) | exact .inr (by simpa using h))] at hx3
            rw [← hx3] at he1
            refine J.exit ?_
            refine JE.then_exit ?_
            refine JE.then_exit ?_
            refine JE.block_exit ?_
            refine JE.then_normal ?_
            refine J.seq ?_
            refine J.seq ?_
            refine J.region ?_
            refine JL.step (y_move rfl) rfl rfl rfl (JL.step (y_move rfl) rfl rfl rfl (JL.step (y_eql rfl rfl) rfl rfl rfl ?_))
            refine JL.nil ?_
            refine JE.then_normal ?_
            first | apply J.cond_dec rfl | apply J.cond rfl
            case' ht =>
              intro h
              try (first | (exfalso; omega) | (cases h; done) | (exfalso; simp at h; done) | subst h)
              all_goals
                rw [if_pos (by omega)] at he1
                refine J.seq ?_
                refine J.region ?_
                refine JL.step (y_assign rfl) rfl rfl rfl ?_
                refine JL.nil ?_
                refine JE.then_normal ?_
                refine J.ret ?_
                refine JE.then_ret ?_
                refine JE.block_ret ?_
                refine JE.then_ret ?_
                refine JE.then_ret ?_
                refine JE.block_ret ?_
                refine JE.then_ret ?_
                refine JE.ret1 (.inl rfl) rfl rfl (by (first | exact RV.tmp rfl | exact RV.cell1 hT rfl rfl rfl (by (exact Rd1.row (by (repeat (first | exact Pick.head | apply Pick.tail | apply Pick.app))) (by rfl))) | exact RV.cellN hT rfl rfl rfl (by (first | exact RdN.rowAll (by (repeat (first | exact Pick.head | apply Pick.tail | apply Pick.app))) | exact RdN.own (by (repeat (first | exact Pick.head | apply Pick.tail | apply Pick.app))))) (by (first | rfl | assumption | (simp; done) | omega)))) ?_
                exact ⟨by rw [← he1], fun w h => by rw [← he1]; exact h⟩
            case' hf =>
              intro h
              try (first | (exfalso; omega) | (cases h; done) | (exfalso; simp at h; done) | subst h)
              all_goals
                rw [if_neg (by omega)] at he1
                refine J.skip ?_
            all_goals refine JE.then_normal ?_
            all_goals
              refine J.seq ?_
              refine J.seq ?_
              refine J.region ?_
              refine JL.step (y_move rfl) rfl rfl rfl (JL.step (y_move rfl) rfl rfl rfl ?_)
              refine JL.step (y_sub rfl rfl (by (first | exact wrap_i64 (by omega) (by omega) | rfl))) rfl rfl rfl ?_
              refine JL.step (y_lss rfl rfl) rfl rfl rfl ?_
              refine JL.nil ?_
              refine JE.then_normal ?_
              first | apply J.cond_dec rfl | apply J.cond rfl
              case' ht =>
                intro h
                try (first | (exfalso; omega) | (cases h; done) | (exfalso; simp at h; done) | subst h)
                all_goals
                  rw [if_pos (by omega)] at he1
                  refine J.seq ?_
                  refine J.region ?_
                  refine JL.step (y_assign rfl) rfl rfl rfl ?_
                  refine JL.nil ?_
                  refine JE.then_normal ?_
                  refine J.ret ?_
                  refine JE.then_ret ?_
                  refine JE.block_ret ?_
                  refine JE.then_ret ?_
                  refine JE.then_ret ?_
                  refine JE.block_ret ?_
                  refine JE.then_ret ?_
                  refine JE.ret1 (.inl rfl) rfl rfl (by (first | exact RV.tmp rfl | exact RV.cell1 hT rfl rfl rfl (by (exact Rd1.row (by (repeat (first | exact Pick.head | apply Pick.tail | apply Pick.app))) (by rfl))) | exact RV.cellN hT rfl rfl rfl (by (first | exact RdN.rowAll (by (repeat (first | exact Pick.head | apply Pick.tail | apply Pick.app))) | exact RdN.own (by (repeat (first | exact Pick.head | apply Pick.tail | apply Pick.app))))) (by (first | rfl | assumption | (simp; done) | omega)))) ?_
                  exact ⟨by rw [← he1], fun w h => by rw [← he1]; exact h⟩
              case' hf =>
                intro h
                try (first | (exfalso; omega) | (cases h; done) | (exfalso; simp at h; done) | subst h)
                all_goals
                  rw [if_neg (by omega)] at he1
                  refine J.skip ?_
              all_goals refine JE.then_normal ?_
              all_goals
                refine J.seq ?_
                refine J.draw _ _ [(0, .q), (1, .q), (2, .q), (3, .q), (4, .q), (5, .q), (6, .q), (7, .q), (8, .q), (10, .q), (11, .q), (12, .q), (9, .e), (13, .e), (14, .q), (15, .l), (16, .q), (17, .l)] mixed (by kernel_rfl) (Split.cons (Pick.head) (Split.nil)) ?_
                refine JM.quiet rfl rfl rfl rfl (fun m => y_move rfl) ?_
                refine JM.quiet rfl rfl rfl rfl (fun m => y_move rfl) ?_
                refine JM.quiet rfl rfl rfl rfl (fun m => y_move rfl) ?_
                refine JM.quiet rfl rfl rfl rfl (fun m => y_move rfl) ?_
                refine JM.quiet rfl rfl rfl rfl (fun m => y_sub rfl rfl (by (first | exact wrap_i64 (by omega) (by omega) | rfl))) ?_
                refine JM.quiet rfl rfl rfl rfl (fun m => y_move rfl) ?_
                refine JM.quiet rfl rfl rfl rfl (fun m => y_move rfl) ?_
                refine JM.quiet rfl rfl rfl rfl (fun m => y_sub rfl rfl (by (first | exact wrap_i64 (by omega) (by omega) | rfl))) ?_
                refine JM.quiet rfl rfl rfl rfl (fun m => y_indexAddr_slice hT rfl rfl rfl rfl rfl (by (first | omega | exact Nat.le_of_ble_eq_true rfl | decide | (simp; omega))) (by (first | omega | exact Nat.le_of_ble_eq_true rfl | decide | (simp; omega)))) ?_
                refine JM.quiet rfl rfl rfl rfl (fun m => y_move rfl) ?_
                refine JM.quiet rfl rfl rfl rfl (fun m => y_move rfl) ?_
                refine JM.quiet rfl rfl rfl rfl (fun m => y_indexAddr_slice hT rfl rfl rfl rfl rfl (by (first | omega | exact Nat.le_of_ble_eq_true rfl | decide | (simp; omega))) (by (first | omega | exact Nat.le_of_ble_eq_true rfl | decide | (simp; omega)))) ?_
                refine JM.early rfl rfl rfl rfl (fun fr => y_load1 hT rfl rfl rfl (Rd1.arr (i := (x - 1)) (by (repeat (first | exact Pick.head | apply Pick.tail | apply Pick.app))) (by (first | assumption | omega | (simp only [Array.size_setIfInBounds]; omega))) (by exact arr_off rfl (by omega)))) ?_
                refine JM.early rfl rfl rfl rfl (fun fr => y_load1 hT rfl rfl rfl (Rd1.arr (i := (x)) (by (repeat (first | exact Pick.head | apply Pick.tail | apply Pick.app))) (by (first | assumption | omega | (simp only [Array.size_setIfInBounds]; omega))) (by exact arr_off rfl (by omega)))) ?_
                refine JM.quiet rfl rfl rfl rfl (fun m => y_indexAddr_slice hT rfl rfl rfl rfl rfl (by (first | omega | exact Nat.le_of_ble_eq_true rfl | decide | (simp; omega))) (by (first | omega | exact Nat.le_of_ble_eq_true rfl | decide | (simp; omega)))) ?_
                refine JM.loud rfl rfl (fun fr => l_storeArr (j := (x)) (u := d1[x - 1]!) hT rfl rfl rfl rfl (fun _ => rfl) (by (repeat (first | exact Pick.head | apply Pick.tail | apply Pick.app))) (by (first | assumption | omega | (simp only [Array.size_setIfInBounds]; omega))) (by exact arr_off rfl (by omega)) (⟨[_], (by (repeat (first | exact Split.nil | exact Split.all | refine Split.cons Pick.head ?_))), ?_⟩))
                refine JM.quiet rfl rfl rfl rfl (fun m => y_indexAddr_slice hT rfl rfl rfl rfl rfl (by (first | omega | exact Nat.le_of_ble_eq_true rfl | decide | (simp; omega))) (by (first | omega | exact Nat.le_of_ble_eq_true rfl | decide | (simp; omega)))) ?_
                refine JM.loud rfl rfl (fun fr => l_storeArr (j := (x - 1)) (u := d1[x]!) hT rfl rfl rfl rfl (fun _ => rfl) (by (repeat (first | exact Pick.head | apply Pick.tail | apply Pick.app))) (by (first | assumption | omega | (simp only [Array.size_setIfInBounds]; omega))) (by exact arr_off rfl (by omega)) (⟨[_], (by (repeat (first | exact Split.nil | exact Split.all | refine Split.cons Pick.head ?_))), ?_⟩))
                refine JM.nil ?_
                refine JE.then_normal ?_
                refine J.seqK (α := Nat × Array Int) (fun q => a + 1 ≤ q.1 ∧ q.1 < b ∧ q.2.size = n ∧ ∃ k, s = k + 1 ∧ Sort.partialIns Sort.ltInt a b k q.1 (Sort.fixUp Sort.ltInt b q.1 q.2) = res) (fun q => [(0, .slice (some ⟨g, 0, none⟩) n c), (1, .int .i64 a), (2, .int .i64 b), (7, .int .i64 q.1), (8, .int .i64 (5 - (s : Int)))]) (fun q => arU g q.2 sp :: r) ?hj18 (fun hk18 => ?hf18)
                case hf18 =>
                  refine J.seq ?_
                  refine J.region ?_
                  refine JL.step (y_move rfl) rfl rfl rfl (JL.step (y_move rfl) rfl rfl rfl ?_)
                  refine JL.step (y_sub rfl rfl (by (first | exact wrap_i64 (by omega) (by omega) | rfl))) rfl rfl rfl ?_
                  refine JL.step (y_geq rfl rfl) rfl rfl rfl ?_
                  refine JL.nil ?_
                  refine JE.then_normal ?_
                  first | apply J.cond_dec rfl | apply J.cond rfl
                  case' ht =>
                    intro h
                    try (first | (exfalso; omega) | (cases h; done) | (exfalso; simp at h; done) | subst h)
                    all_goals
                      have hfd : Sort.fixDown Sort.ltInt a x (Sort.swp d1 x (x - 1)) = Sort.shiftDown Sort.ltInt (x - 1) (Sort.swp d1 x (x - 1)) := if_pos (by omega)
                      rw [hfd] at he1
                      refine J.seq ?_
                      refine J.region ?_
                      refine JL.step (y_move rfl) rfl rfl rfl ?_
                      refine JL.step (y_sub rfl rfl (by (first | exact wrap_i64 (by omega) (by omega) | rfl))) rfl rfl rfl ?_
                      refine JL.step (y_assign rfl) rfl rfl rfl ?_
                      refine JL.nil ?_
                      refine JE.then_normal ?_
                      refine J.block ?_
                      refine J.loop (α := Nat × Array Int) (fun q => q.1 ≤ x - 1 ∧ q.2.size = n ∧ Sort.shiftDown Sort.ltInt q.1 q.2 = Sort.shiftDown Sort.ltInt (x - 1) (Sort.swp d1 x (x - 1))) (fun q => [(0, .slice (some ⟨g, 0, none⟩) n c), (1, .int .i64 a), (2, .int .i64 b), (7, .int .i64 x), (8, .int .i64 (5 - (s : Int))), (9, .int .i64 q.1)]) (fun q => arU g q.2 sp :: r) (fun q => q.1) (x - 1, Sort.swp d1 x (x - 1)) ⟨Nat.le_refl _, by dsimp only; rw [swp_size]; exact hs1, rfl⟩ ⟨rfl, rfl, rfl, rfl, rfl, (congrArg (fun z => some (Value.int .i64 z)) (by first | omega | (dsimp only; omega))), trivial⟩ (fun w h => h) ?_
                      rintro ⟨j, d2⟩ ⟨hj1, hs2, he2⟩
                      try dsimp only at hj1 hs2 he2 ⊢
                      refine J.seq ?_
                      refine J.seq ?_
                      refine J.region ?_
                      refine JL.step (y_move rfl) rfl rfl rfl (JL.step (y_geq rfl rfl) rfl rfl rfl ?_)
                      refine JL.nil ?_
                      refine JE.then_normal ?_
                      first | apply J.cond_dec rfl | apply J.cond rfl
                      case' ht =>
                        intro h
                        try (first | (exfalso; omega) | (cases h; done) | (exfalso; simp at h; done) | subst h)
                        all_goals
                          refine J.skip ?_
                      case' hf =>
                        intro h
                        try (first | (exfalso; omega) | (cases h; done) | (exfalso; simp at h; done) | subst h)
                        all_goals
                          rw [shiftDown_stop (.inl (by omega))] at he2
                          rw [← he2] at he1
                          refine J.exit ?_
                          refine JE.then_exit ?_
                          refine JE.then_exit ?_
                          refine JE.block_exit ?_
                          refine JE.then_normal ?_
                          first | exact J.closeK hk18 (x, d2) ⟨by dsimp only; omega, by dsimp only; omega, hs2, k, hk, he1⟩ ⟨rfl, rfl, rfl, rfl, rfl, trivial⟩ (fun w h => h) | exact J.closeK hk18 (x, Sort.swp d1 x (x - 1)) ⟨by dsimp only; omega, by dsimp only; omega, by dsimp only; rw [swp_size]; exact hs1, k, hk, he1⟩ ⟨rfl, rfl, rfl, rfl, rfl, trivial⟩ (fun w h => h)
                      all_goals refine JE.then_normal ?_
                      all_goals
                        refine J.seq ?_
                        refine J.block ?_
                        refine J.seq ?_
                        refine J.seq ?_
                        refine J.draw _ _ [(0, .q), (1, .q), (2, .q), (3, .q), (4, .q), (5, .q), (6, .q), (7, .q), (8, .q), (9, .q), (10, .q)] mixed (by kernel_rfl) (Split.nil) ?_
                        refine JM.quiet rfl rfl rfl rfl (fun m => y_move rfl) ?_
                        refine JM.quiet rfl rfl rfl rfl (fun m => y_move rfl) ?_
                        refine JM.quiet rfl rfl rfl rfl (fun m => y_indexAddr_slice hT rfl rfl rfl rfl rfl (by (first | omega | exact Nat.le_of_ble_eq_true rfl | decide | (simp; omega))) (by (first | omega | exact Nat.le_of_ble_eq_true rfl | decide | (simp; omega)))) ?_
                        refine JM.quiet rfl rfl rfl rfl (fun m => y_load1 hT rfl rfl rfl (Rd1.arr (i := (j)) (Pick.app m (by (repeat (first | exact Pick.head | apply Pick.tail | apply Pick.app)))) (by (first | assumption | omega | (simp only [Array.size_setIfInBounds]; omega))) (by exact arr_off rfl (by omega)))) ?_
                        refine JM.quiet rfl rfl rfl rfl (fun m => y_move rfl) ?_
                        refine JM.quiet rfl rfl rfl rfl (fun m => y_move rfl) ?_
                        refine JM.quiet rfl rfl rfl rfl (fun m => y_sub rfl rfl (by (first | exact wrap_i64 (by omega) (by omega) | rfl))) ?_
                        refine JM.quiet rfl rfl rfl rfl (fun m => y_indexAddr_slice hT rfl rfl rfl rfl rfl (by (first | omega | exact Nat.le_of_ble_eq_true rfl | decide | (simp; omega))) (by (first | omega | exact Nat.le_of_ble_eq_true rfl | decide | (simp; omega)))) ?_
                        refine JM.quiet rfl rfl rfl rfl (fun m => y_load1 hT rfl rfl rfl (Rd1.arr (i := (j - 1)) (Pick.app m (by (repeat (first | exact Pick.head | apply Pick.tail | apply Pick.app)))) (by (first | assumption | omega | (simp only [Array.size_setIfInBounds]; omega))) (by exact arr_off rfl (by omega)))) ?_
                        refine JM.quiet rfl rfl rfl rfl (fun m => y_callF e103 rfl (lessU E _ _ _)) ?_
                        refine JM.quiet rfl rfl rfl rfl (fun m => y_not rfl) ?_
                        refine JM.nil ?_
                        refine JE.then_normal ?_
                        first | apply J.cond_dec rfl | apply J.cond rfl
                        case' ht =>
                          intro h
                          try (first | (exfalso; omega) | (cases h; done) | (exfalso; simp at h; done) | subst h)
                          all_goals
                            rw [shiftDown_stop (.inr (by simpa using h))] at he2
                            rw [← he2] at he1
                            refine J.exit ?_
                            refine JE.then_exit ?_
                            refine JE.block_past rfl ?_
                            refine JE.then_exit ?_
                            refine JE.then_exit ?_
                            refine JE.block_exit ?_
                            refine JE.then_normal ?_
                            first | exact J.closeK hk18 (x, d2) ⟨by dsimp only; omega, by dsimp only; omega, hs2, k, hk, he1⟩ ⟨rfl, rfl, rfl, rfl, rfl, trivial⟩ (fun w h => h) | exact J.closeK hk18 (x, Sort.swp d1 x (x - 1)) ⟨by dsimp only; omega, by dsimp only; omega, by dsimp only; rw [swp_size]; exact hs1, k, hk, he1⟩ ⟨rfl, rfl, rfl, rfl, rfl, trivial⟩ (fun w h => h)
                        case' hf =>
                          intro h
                          try (first | (exfalso; omega) | (cases h; done) | (exfalso; simp at h; done) | subst h)
                          all_goals
                            rw [shiftDown_go (by omega) (by simpa using h)] at he2
                            refine J.skip ?_
                        all_goals refine JE.then_normal ?_
                        all_goals
                          refine J.draw _ _ [(0, .q), (1, .q), (2, .q), (3, .q), (4, .q), (5, .q), (6, .q), (7, .q), (8, .q), (10, .q), (11, .q), (12, .q), (9, .e), (13, .e), (14, .q), (15, .l), (16, .q), (17, .l)] mixed (by kernel_rfl) (Split.cons (Pick.head) (Split.nil)) ?_
                          refine JM.quiet rfl rfl rfl rfl (fun m => y_move rfl) ?_
                          refine JM.quiet rfl rfl rfl rfl (fun m => y_move rfl) ?_
                          refine JM.quiet rfl rfl rfl rfl (fun m => y_move rfl) ?_
                          refine JM.quiet rfl rfl rfl rfl (fun m => y_move rfl) ?_
                          refine JM.quiet rfl rfl rfl rfl (fun m => y_sub rfl rfl (by (first | exact wrap_i64 (by omega) (by omega) | rfl))) ?_
                          refine JM.quiet rfl rfl rfl rfl (fun m => y_move rfl) ?_
                          refine JM.quiet rfl rfl rfl rfl (fun m => y_move rfl) ?_
                          refine JM.quiet rfl rfl rfl rfl (fun m => y_sub rfl rfl (by (first | exact wrap_i64 (by omega) (by omega) | rfl))) ?_
                          refine JM.quiet rfl rfl rfl rfl (fun m => y_indexAddr_slice hT rfl rfl rfl rfl rfl (by (first | omega | exact Nat.le_of_ble_eq_true rfl | decide | (simp; omega))) (by (first | omega | exact Nat.le_of_ble_eq_true rfl | decide | (simp; omega)))) ?_
                          refine JM.quiet rfl rfl rfl rfl (fun m => y_move rfl) ?_
                          refine JM.quiet rfl rfl rfl rfl (fun m => y_move rfl) ?_
                          refine JM.quiet rfl rfl rfl rfl (fun m => y_indexAddr_slice hT rfl rfl rfl rfl rfl (by (first | omega | exact Nat.le_of_ble_eq_true rfl | decide | (simp; omega))) (by (first | omega | exact Nat.le_of_ble_eq_true rfl | decide | (simp; omega)))) ?_
                          refine JM.early rfl rfl rfl rfl (fun fr => y_load1 hT rfl rfl rfl (Rd1.arr (i := (j - 1)) (by (repeat (first | exact Pick.head | apply Pick.tail | apply Pick.app))) (by (first | assumption | omega | (simp only [Array.size_setIfInBounds]; omega))) (by exact arr_off rfl (by omega)))) ?_
                          refine JM.early rfl rfl rfl rfl (fun fr => y_load1 hT rfl rfl rfl (Rd1.arr (i := (j)) (by (repeat (first | exact Pick.head | apply Pick.tail | apply Pick.app))) (by (first | assumption | omega | (simp only [Array.size_setIfInBounds]; omega))) (by exact arr_off rfl (by omega)))) ?_
                          refine JM.quiet rfl rfl rfl rfl (fun m => y_indexAddr_slice hT rfl rfl rfl rfl rfl (by (first | omega | exact Nat.le_of_ble_eq_true rfl | decide | (simp; omega))) (by (first | omega | exact Nat.le_of_ble_eq_true rfl | decide | (simp; omega)))) ?_
                          refine JM.loud rfl rfl (fun fr => l_storeArr (j := (j)) (u := d2[j - 1]!) hT rfl rfl rfl rfl (fun _ => rfl) (by (repeat (first | exact Pick.head | apply Pick.tail | apply Pick.app))) (by (first | assumption | omega | (simp only [Array.size_setIfInBounds]; omega))) (by exact arr_off rfl (by omega)) (⟨[_], (by (repeat (first | exact Split.nil | exact Split.all | refine Split.cons Pick.head ?_))), ?_⟩))
                          refine JM.quiet rfl rfl rfl rfl (fun m => y_indexAddr_slice hT rfl rfl rfl rfl rfl (by (first | omega | exact Nat.le_of_ble_eq_true rfl | decide | (simp; omega))) (by (first | omega | exact Nat.le_of_ble_eq_true rfl | decide | (simp; omega)))) ?_
                          refine JM.loud rfl rfl (fun fr => l_storeArr (j := (j - 1)) (u := d2[j]!) hT rfl rfl rfl rfl (fun _ => rfl) (by (repeat (first | exact Pick.head | apply Pick.tail | apply Pick.app))) (by (first | assumption | omega | (simp only [Array.size_setIfInBounds]; omega))) (by exact arr_off rfl (by omega)) (⟨[_], (by (repeat (first | exact Split.nil | exact Split.all | refine Split.cons Pick.head ?_))), ?_⟩))
                          refine JM.nil ?_
                        all_goals refine JE.block_normal ?_
                        all_goals refine JE.then_normal ?_
                        all_goals
                          refine J.region ?_
                          refine JL.step (y_move rfl) rfl rfl rfl ?_
                          refine JL.step (y_sub rfl rfl (by (first | exact wrap_i64 (by omega) (by omega) | rfl))) rfl rfl rfl ?_
                          refine JL.step (y_assign rfl) rfl rfl rfl ?_
                          refine JL.nil ?_
                      all_goals
                        exact JE.round (s := (j, d2)) (j - 1, Sort.swp d2 j (j - 1)) ⟨by dsimp only; omega, by dsimp only; rw [swp_size]; exact hs2, he2⟩ ⟨rfl, rfl, rfl, rfl, rfl, (congrArg (fun z => some (Value.int .i64 z)) (by first | omega | (dsimp only; omega))), trivial⟩ (fun w h => h) (by dsimp only; omega)
                  case' hf =>
                    intro h
                    try (first | (exfalso; omega) | (cases h; done) | (exfalso; simp at h; done) | subst h)
                    all_goals
                      have hfd : Sort.fixDown Sort.ltInt a x (Sort.swp d1 x (x - 1)) = Sort.swp d1 x (x - 1) := if_neg (by omega)
                      rw [hfd] at he1
                      refine J.skip ?_
                  all_goals refine JE.then_normal ?_
                  all_goals
                    first | exact J.closeK hk18 (x, d2) ⟨by dsimp only; omega, by dsimp only; omega, hs2, k, hk, he1⟩ ⟨rfl, rfl, rfl, rfl, rfl, trivial⟩ (fun w h => h) | exact J.closeK hk18 (x, Sort.swp d1 x (x - 1)) ⟨by dsimp only; omega, by dsimp only; omega, by dsimp only; rw [swp_size]; exact hs1, k, hk, he1⟩ ⟨rfl, rfl, rfl, rfl, rfl, trivial⟩ (fun w h => h)
                rintro ⟨x, d3⟩ ⟨hx1, hx2, hs3, k, hk, he3⟩
                try dsimp only at hx1 hx2 hs3 he3 ⊢
                refine J.seq ?_
                refine J.region ?_
                refine JL.step (y_move rfl) rfl rfl rfl (JL.step (y_move rfl) rfl rfl rfl ?_)
                refine JL.step (y_sub rfl rfl (by (first | exact wrap_i64 (by omega) (by omega) | rfl))) rfl rfl rfl ?_
                refine JL.step (y_geq rfl rfl) rfl rfl rfl ?_
                refine JL.nil ?_
                refine JE.then_normal ?_
                first | apply J.cond_dec rfl | apply J.cond rfl
                case' ht =>
                  intro h
                  try (first | (exfalso; omega) | (cases h; done) | (exfalso; simp at h; done) | subst h)
                  all_goals
                    have hfu : Sort.fixUp Sort.ltInt b x d3 = Sort.shiftUp Sort.ltInt b (x + 1) d3 := if_pos (by omega)
                    rw [hfu] at he3
                    refine J.seq ?_
                    refine J.region ?_
                    refine JL.step (y_move rfl) rfl rfl rfl ?_
                    refine JL.step (y_add rfl rfl (by (first | exact wrap_i64 (by omega) (by omega) | rfl))) rfl rfl rfl ?_
                    refine JL.step (y_assign rfl) rfl rfl rfl ?_
                    refine JL.nil ?_
                    refine JE.then_normal ?_
                    refine J.block ?_
                    refine J.loop (α := Nat × Array Int) (fun q => x + 1 ≤ q.1 ∧ q.1 ≤ b ∧ q.2.size = n ∧ Sort.shiftUp Sort.ltInt b q.1 q.2 = Sort.shiftUp Sort.ltInt b (x + 1) d3) (fun q => [(0, .slice (some ⟨g, 0, none⟩) n c), (1, .int .i64 a), (2, .int .i64 b), (7, .int .i64 x), (8, .int .i64 (5 - (s : Int))), (10, .int .i64 q.1)]) (fun q => arU g q.2 sp :: r) (fun q => b - q.1) (x + 1, d3) ⟨Nat.le_refl _, by dsimp only; omega, hs3, rfl⟩ ⟨rfl, rfl, rfl, rfl, rfl, (congrArg (fun z => some (Value.int .i64 z)) (by first | omega | (dsimp only; omega))), trivial⟩ (fun w h => h) ?_
                    rintro ⟨j, d4⟩ ⟨hj1, hj2, hs4, he4⟩
                    try dsimp only at hj1 hj2 hs4 he4 ⊢
                    refine J.seq ?_
                    refine J.seq ?_
                    refine J.region ?_
                    refine JL.step (y_move rfl) rfl rfl rfl (JL.step (y_move rfl) rfl rfl rfl (JL.step (y_lss rfl rfl) rfl rfl rfl ?_))
                    refine JL.nil ?_
                    refine JE.then_normal ?_
                    first | apply J.cond_dec rfl | apply J.cond rfl
                    case' ht =>
                      intro h
                      try (first | (exfalso; omega) | (cases h; done) | (exfalso; simp at h; done) | subst h)
                      all_goals
                        refine J.skip ?_
                    case' hf =>
                      intro h
                      try (first | (exfalso; omega) | (cases h; done) | (exfalso; simp at h; done) | subst h)
                      all_goals
                        rw [shiftUp_stop (.inl (by omega))] at he4
                        rw [← he4] at he3
                        refine J.exit ?_
                        refine JE.then_exit ?_
                        refine JE.then_exit ?_
                        refine JE.block_exit ?_
                        refine JE.block_normal ?_
                        refine JE.then_normal ?_
                        first | exact J.closeK hk4 (x, d4) ⟨by dsimp only; omega, by dsimp only; omega, hs4, k, hk, he3⟩ ⟨rfl, rfl, rfl, rfl, rfl, trivial⟩ (fun w h => h) | exact J.closeK hk4 (x, d3) ⟨by dsimp only; omega, by dsimp only; omega, hs3, k, hk, he3⟩ ⟨rfl, rfl, rfl, rfl, rfl, trivial⟩ (fun w h => h)
                    all_goals refine JE.then_normal ?_
                    all_goals
                      refine J.seq ?_
                      refine J.block ?_
                      refine J.seq ?_
                      refine J.seq ?_
                      refine J.draw _ _ [(0, .q), (1, .q), (2, .q), (3, .q), (4, .q), (5, .q), (6, .q), (7, .q), (8, .q), (9, .q), (10, .q)] mixed (by kernel_rfl) (Split.nil) ?_
                      refine JM.quiet rfl rfl rfl rfl (fun m => y_move rfl) ?_
                      refine JM.quiet rfl rfl rfl rfl (fun m => y_move rfl) ?_
                      refine JM.quiet rfl rfl rfl rfl (fun m => y_indexAddr_slice hT rfl rfl rfl rfl rfl (by (first | omega | exact Nat.le_of_ble_eq_true rfl | decide | (simp; omega))) (by (first | omega | exact Nat.le_of_ble_eq_true rfl | decide | (simp; omega)))) ?_
                      refine JM.quiet rfl rfl rfl rfl (fun m => y_load1 hT rfl rfl rfl (Rd1.arr (i := (j)) (Pick.app m (by (repeat (first | exact Pick.head | apply Pick.tail | apply Pick.app)))) (by (first | assumption | omega | (simp only [Array.size_setIfInBounds]; omega))) (by exact arr_off rfl (by omega)))) ?_
                      refine JM.quiet rfl rfl rfl rfl (fun m => y_move rfl) ?_
                      refine JM.quiet rfl rfl rfl rfl (fun m => y_move rfl) ?_
                      refine JM.quiet rfl rfl rfl rfl (fun m => y_sub rfl rfl (by (first | exact wrap_i64 (by omega) (by omega) | rfl))) ?_
                      refine JM.quiet rfl rfl rfl rfl (fun m => y_indexAddr_slice hT rfl rfl rfl rfl rfl (by (first | omega | exact Nat.le_of_ble_eq_true rfl | decide | (simp; omega))) (by (first | omega | exact Nat.le_of_ble_eq_true rfl | decide | (simp; omega)))) ?_
                      refine JM.quiet rfl rfl rfl rfl (fun m => y_load1 hT rfl rfl rfl (Rd1.arr (i := (j - 1)) (Pick.app m (by (repeat (first | exact Pick.head | apply Pick.tail | apply Pick.app)))) (by (first | assumption | omega | (simp only [Array.size_setIfInBounds]; omega))) (by exact arr_off rfl (by omega)))) ?_
                      refine JM.quiet rfl rfl rfl rfl (fun m => y_callF e103 rfl (lessU E _ _ _)) ?_
                      refine JM.quiet rfl rfl rfl rfl (fun m => y_not rfl) ?_
                      refine JM.nil ?_
                      refine JE.then_normal ?_
                      first | apply J.cond_dec rfl | apply J.cond rfl
                      case' ht =>
                        intro h
                        try (first | (exfalso; omega) | (cases h; done) | (exfalso; simp at h; done) | subst h)
                        all_goals
                          rw [shiftUp_stop (.inr (by simpa using h))] at he4
                          rw [← he4] at he3
                          refine J.exit ?_
                          refine JE.then_exit ?_
                          refine JE.block_past rfl ?_
                          refine JE.then_exit ?_
                          refine JE.then_exit ?_
                          refine JE.block_exit ?_
                          refine JE.block_normal ?_
                          refine JE.then_normal ?_
                          first | exact J.closeK hk4 (x, d4) ⟨by dsimp only; omega, by dsimp only; omega, hs4, k, hk, he3⟩ ⟨rfl, rfl, rfl, rfl, rfl, trivial⟩ (fun w h => h) | exact J.closeK hk4 (x, d3) ⟨by dsimp only; omega, by dsimp only; omega, hs3, k, hk, he3⟩ ⟨rfl, rfl, rfl, rfl, rfl, trivial⟩ (fun w h => h)
                      case' hf =>
                        intro h
                        try (first | (exfalso; omega) | (cases h; done) | (exfalso; simp at h; done) | subst h)
                        all_goals
                          rw [shiftUp_go (by omega) (by simpa using h)] at he4
                          refine J.skip ?_
                      all_goals refine JE.then_normal ?_
                      all_goals
                        refine J.draw _ _ [(0, .q), (1, .q), (2, .q), (3, .q), (4, .q), (5, .q), (6, .q), (7, .q), (8, .q), (10, .q), (11, .q), (12, .q), (9, .e), (13, .e), (14, .q), (15, .l), (16, .q), (17, .l)] mixed (by kernel_rfl) (Split.cons (Pick.head) (Split.nil)) ?_
                        refine JM.quiet rfl rfl rfl rfl (fun m => y_move rfl) ?_
                        refine JM.quiet rfl rfl rfl rfl (fun m => y_move rfl) ?_
                        refine JM.quiet rfl rfl rfl rfl (fun m => y_move rfl) ?_
                        refine JM.quiet rfl rfl rfl rfl (fun m => y_move rfl) ?_
                        refine JM.quiet rfl rfl rfl rfl (fun m => y_sub rfl rfl (by (first | exact wrap_i64 (by omega) (by omega) | rfl))) ?_
                        refine JM.quiet rfl rfl rfl rfl (fun m => y_move rfl) ?_
                        refine JM.quiet rfl rfl rfl rfl (fun m => y_move rfl) ?_
                        refine JM.quiet rfl rfl rfl rfl (fun m => y_sub rfl rfl (by (first | exact wrap_i64 (by omega) (by omega) | rfl))) ?_
                        refine JM.quiet rfl rfl rfl rfl (fun m => y_indexAddr_slice hT rfl rfl rfl rfl rfl (by (first | omega | exact Nat.le_of_ble_eq_true rfl | decide | (simp; omega))) (by (first | omega | exact Nat.le_of_ble_eq_true rfl | decide | (simp; omega)))) ?_
                        refine JM.quiet rfl rfl rfl rfl (fun m => y_move rfl) ?_
                        refine JM.quiet rfl rfl rfl rfl (fun m => y_move rfl) ?_
                        refine JM.quiet rfl rfl rfl rfl (fun m => y_indexAddr_slice hT rfl rfl rfl rfl rfl (by (first | omega | exact Nat.le_of_ble_eq_true rfl | decide | (simp; omega))) (by (first | omega | exact Nat.le_of_ble_eq_true rfl | decide | (simp; omega)))) ?_
                        refine JM.early rfl rfl rfl rfl (fun fr => y_load1 hT rfl rfl rfl (Rd1.arr (i := (j - 1)) (by (repeat (first | exact Pick.head | apply Pick.tail | apply Pick.app))) (by (first | assumption | omega | (simp only [Array.size_setIfInBounds]; omega))) (by exact arr_off rfl (by omega)))) ?_
                        refine JM.early rfl rfl rfl rfl (fun fr => y_load1 hT rfl rfl rfl (Rd1.arr (i := (j)) (by (repeat (first | exact Pick.head | apply Pick.tail | apply Pick.app))) (by (first | assumption | omega | (simp only [Array.size_setIfInBounds]; omega))) (by exact arr_off rfl (by omega)))) ?_
                        refine JM.quiet rfl rfl rfl rfl (fun m => y_indexAddr_slice hT rfl rfl rfl rfl rfl (by (first | omega | exact Nat.le_of_ble_eq_true rfl | decide | (simp; omega))) (by (first | omega | exact Nat.le_of_ble_eq_true rfl | decide | (simp; omega)))) ?_
                        refine JM.loud rfl rfl (fun fr => l_storeArr (j := (j)) (u := d4[j - 1]!) hT rfl rfl rfl rfl (fun _ => rfl) (by (repeat (first | exact Pick.head | apply Pick.tail | apply Pick.app))) (by (first | assumption | omega | (simp only [Array.size_setIfInBounds]; omega))) (by exact arr_off rfl (by omega)) (⟨[_], (by (repeat (first | exact Split.nil | exact Split.all | refine Split.cons Pick.head ?_))), ?_⟩))
                        refine JM.quiet rfl rfl rfl rfl (fun m => y_indexAddr_slice hT rfl rfl rfl rfl rfl (by (first | omega | exact Nat.le_of_ble_eq_true rfl | decide | (simp; omega))) (by (first | omega | exact Nat.le_of_ble_eq_true rfl | decide | (simp; omega)))) ?_
                        refine JM.loud rfl rfl (fun fr => l_storeArr (j := (j - 1)) (u := d4[j]!) hT rfl rfl rfl rfl (fun _ => rfl) (by (repeat (first | exact Pick.head | apply Pick.tail | apply Pick.app))) (by (first | assumption | omega | (simp only [Array.size_setIfInBounds]; omega))) (by exact arr_off rfl (by omega)) (⟨[_], (by (repeat (first | exact Split.nil | exact Split.all | refine Split.cons Pick.head ?_))), ?_⟩))
                        refine JM.nil ?_
                      all_goals refine JE.block_normal ?_
                      all_goals refine JE.then_normal ?_
                      all_goals
                        refine J.region ?_
                        refine JL.step (y_move rfl) rfl rfl rfl ?_
                        refine JL.step (y_add rfl rfl (by (first | exact wrap_i64 (by omega) (by omega) | rfl))) rfl rfl rfl ?_
                        refine JL.step (y_assign rfl) rfl rfl rfl ?_
                        refine JL.nil ?_
                    all_goals
                      exact JE.round (s := (j, d4)) (j + 1, Sort.swp d4 j (j - 1)) ⟨by dsimp only; omega, by dsimp only; omega, by dsimp only; rw [swp_size]; exact hs4, he4⟩ ⟨rfl, rfl, rfl, rfl, rfl, (congrArg (fun z => some (Value.int .i64 z)) (by first | omega | (dsimp only; omega))), trivial⟩ (fun w h => h) (by dsimp only; omega)
                case' hf =>
                  intro h
                  try (first | (exfalso; omega) | (cases h; done) | (exfalso; simp at h; done) | subst h)
                  all_goals
                    have hfu : Sort.fixUp Sort.ltInt b x d3 = d3 := if_neg (by omega)
                    rw [hfu] at he3
                    refine J.skip ?_
            all_goals
              refine JE.block_normal ?_
              refine JE.then_normal ?_
              first | exact J.closeK hk4 (x, d4) ⟨by dsimp only; omega, by dsimp only; omega, hs4, k, hk, he3⟩ ⟨rfl, rfl, rfl, rfl, rfl, trivial⟩ (fun w h => h) | exact J.closeK hk4 (x, d3) ⟨by dsimp only; omega, by dsimp only; omega, hs3, k, hk, he3⟩ ⟨rfl, rfl, rfl, rfl, rfl, trivial⟩ (fun w h => h)
      all_goals refine JE.then_normal ?_
      all_goals
        refine J.block ?_
        refine J.region ?_
        refine JL.step (y_move rfl) rfl rfl rfl ?_
        refine JL.step (y_add rfl rfl (by (first | exact wrap_i64 (by omega) (by omega) | rfl))) rfl rfl rfl ?_
        refine JL.step (y_assign rfl) rfl rfl rfl ?_
        refine JL.nil ?_
        refine JE.block_normal ?_
      all_goals
        exact JE.round (s := x) (x + 1) ⟨by omega, by omega, hx3⟩ ⟨rfl, rfl, rfl, (congrArg (fun z => some (Value.int .i64 z)) (by first | omega | (dsimp only; omega))), rfl, trivial⟩ (fun w h => h) (by omega)
    rintro ⟨x, d5⟩ ⟨hx1, hx2, hs5', k, hk, he5⟩
    try dsimp only at hx1 hx2 hs5' he5 ⊢
    refine J.region ?_
    refine JL.step (y_move rfl) rfl rfl rfl ?_
    refine JL.step (y_add rfl rfl (by (first | exact wrap_i64 (by omega) (by omega) | rfl))) rfl rfl rfl ?_
    refine JL.step (y_assign rfl) rfl rfl rfl ?_
    refine JL.nil ?_
  all_goals
    exact JE.round (s := (s, i, d1)) (k, x, d5) ⟨by dsimp only; omega, hx1, hx2, hs5', he5⟩ ⟨rfl, rfl, rfl, rfl, (congrArg (fun z => some (Value.int .i64 z)) (by first | omega | (dsimp only; omega))), trivial⟩ (fun w h => h) (by dsimp only; omega)
end
end
section
open Go Go.SL
section
attribute [local irreducible] J JL JE JM LS Y Fc RV Code.wp wpList Code.wpIn wpListIn
attribute [local irreducible] Yc
attribute [local irreducible] Sort.ltInt
variable (E : World)
theorem pdqU (hS : Sort.SWO Sort.ltInt) (m : Nat) : ∀ (g c n a b : Nat) (ia ib lim : Int) (d : Array Int) (sp : List Value) (r : List HProp), b - a ≤ m → ia = a → ib = b → d.size = n → a ≤ b → b ≤ n → Sort.Below Sort.ltInt a b d → n < 4611686018427387904 →
    Fc prog E 76 [.slice (some ⟨g, 0, none⟩) n c, .int .i64 ia, .int .i64 ib, .int .i64 lim].toArray (arU g d sp :: r) (fun v l' => v = .tuple #[] ∧ ∃ d', Sort.PermIn a b d d' ∧ Sort.SortedIn Sort.ltInt a b d' ∧ l' = arU g d' sp :: r) := by
  induction m using Nat.strongRecOn with
  | ind m ih =>
  intro g c n a b ia ib lim d sp r hm ea eb hn hab hb hB h63
  refine Fc.post ?_
  subst ea eb
  refine Fc.of_body (c := ?codeC) Tryd.func76 ?hb Tryd.ntmps76 ?hl ?_
  case hb => exact rfl
  case hl => exact rfl
  refine J.seq ?_
  refine J.region ?_
  refine JL.step (y_assign rfl) rfl rfl rfl ?_
  refine JL.nil ?_
  refine JE.then_normal ?_
  refine J.seq ?_
  refine J.region ?_
  refine JL.step (y_assign rfl) rfl rfl rfl ?_
  refine JL.nil ?_
  refine JE.then_normal ?_
  refine J.block ?_
  refine J.loop (α := Nat × Nat × Int × Bool × Bool × Array Int) (fun s => a ≤ s.1 ∧ s.1 ≤ s.2.1 ∧ s.2.1 ≤ b ∧ s.2.2.2.2.2.size = n ∧ Sort.Below Sort.ltInt s.1 s.2.1 s.2.2.2.2.2 ∧ ∀ R, Sort.PermIn s.1 s.2.1 s.2.2.2.2.2 R → Sort.SortedIn Sort.ltInt s.1 s.2.1 R → Sort.PermIn a b d R ∧ Sort.SortedIn Sort.ltInt a b R) (fun s => [(0, .slice (some ⟨g, 0, none⟩) n c), (1, .int .i64 s.1), (2, .int .i64 s.2.1), (3, .int .i64 s.2.2.1), (8, .bool s.2.2.2.1), (9, .bool s.2.2.2.2.1)]) (fun s => arU g s.2.2.2.2.2 sp :: r) (fun s => s.2.1 - s.1) (a, b, lim, true, true, d) ⟨Nat.le_refl _, hab, Nat.le_refl _, hn, hB, fun R h1 h2 => ⟨h1, h2⟩⟩ ⟨rfl, rfl, rfl, rfl, rfl, rfl, trivial⟩ (fun w h => h) ?_
  rintro ⟨x, y, lm0, wb, wp, d1⟩ ⟨hx, hxy, hy, hs1, hB1, hg1⟩
  try dsimp only at hx hxy hy hs1 hB1 hg1 ⊢
  refine J.block ?_
  refine J.seq ?_
  refine J.region ?_
  refine JL.step (y_move rfl) rfl rfl rfl (JL.step (y_move rfl) rfl rfl rfl ?_)
  refine JL.step (y_sub rfl rfl (by (first | exact wrap_i64 (by omega) (by omega) | rfl))) rfl rfl rfl ?_
  refine JL.step (y_assign rfl) rfl rfl rfl ?_
  refine JL.nil ?_
  refine JE.then_normal ?_
  refine J.seq ?_
  refine J.seq ?_
  refine J.region ?_
  refine JL.step (y_move rfl) rfl rfl rfl (JL.step (y_leq rfl rfl) rfl rfl rfl ?_)
  refine JL.nil ?_
  refine JE.then_normal ?_
  first | apply J.cond_dec rfl | apply J.cond rfl
  case' ht =>
    intro h
    try (first | (exfalso; omega) | (cases h; done) | (exfalso; simp at h; done) | subst h)
    all_goals
      have hfin := hg1 _ (Sort.insertionSort_holds hS d1 x y hxy (by omega)).1 (Sort.insertionSort_holds hS d1 x y hxy (by omega)).2
      refine J.seq ?_
      refine J.region ?_
      refine JL.step (y_move rfl) rfl rfl rfl (JL.step (y_move rfl) rfl rfl rfl (JL.step (y_move rfl) rfl rfl rfl ?_))
      refine JL.loud rfl (l_callF e97 rfl rfl (Fc.on (Split.cons (by (repeat (first | exact Pick.head | apply Pick.tail | apply Pick.app))) Split.nil) (insU E g c n x y _ _ d1 sp _ rfl rfl hs1 (by omega) (by omega) h63)) ?_)
      rintro _ _ ⟨rfl, rfl⟩
      refine JL.nil ?_
      refine JE.then_normal ?_
      refine J.ret ?_
      refine JE.then_ret ?_
      refine JE.block_ret ?_
      refine JE.then_ret ?_
      refine JE.block_ret ?_
      refine JE.ret0 (.inl rfl) rfl rfl  ?_
      exact ⟨_, fun w h => h, rfl, _, hfin.1, hfin.2, rfl⟩
  case' hf =>
    intro h
    try (first | (exfalso; omega) | (cases h; done) | (exfalso; simp at h; done) | subst h)
    all_goals
      refine J.skip ?_
  all_goals refine JE.then_normal ?_
  all_goals
    refine J.seq ?_
    refine J.seq ?_
    refine J.region ?_
    refine JL.step (y_move rfl) rfl rfl rfl (JL.step (y_eql rfl rfl) rfl rfl rfl ?_)
    refine JL.nil ?_
    refine JE.then_normal ?_
    first | apply J.cond_dec rfl | apply J.cond rfl
    case' ht =>
      intro h
      try (first | (exfalso; omega) | (cases h; done) | (exfalso; simp at h; done) | subst h)
      all_goals
        have hfin := hg1 _ (Sort.heapSort_holds hS d1 x y hxy (by omega)).1 (Sort.heapSort_holds hS d1 x y hxy (by omega)).2
        refine J.seq ?_
        refine J.region ?_
        refine JL.step (y_move rfl) rfl rfl rfl (JL.step (y_move rfl) rfl rfl rfl (JL.step (y_move rfl) rfl rfl rfl ?_))
        refine JL.loud rfl (l_callF e98 rfl rfl (Fc.on (Split.cons (by (repeat (first | exact Pick.head | apply Pick.tail | apply Pick.app))) Split.nil) (heapU E g c n x y _ _ d1 sp _ rfl rfl hs1 (by omega) (by omega) h63)) ?_)
        rintro _ _ ⟨rfl, dh, rfl, rfl⟩
        refine JL.nil ?_
        refine JE.then_normal ?_
        refine J.ret ?_
        refine JE.then_ret ?_
        refine JE.block_ret ?_
        refine JE.then_ret ?_
        refine JE.block_ret ?_
        refine JE.ret0 (.inl rfl) rfl rfl  ?_
        exact ⟨_, fun w h => h, rfl, _, hfin.1, hfin.2, rfl⟩
    case' hf =>
      intro h
      try (first | (exfalso; omega) | (cases h; done) | (exfalso; simp at h; done) | subst h)
      all_goals
        refine J.skip ?_
    all_goals refine JE.then_normal ?_
    all_goals
      refine J.seqK (α := Int × Array Int) (fun q => x + 12 < y ∧ Sort.PermIn x y d1 q.2) (fun q => [(0, .slice (some ⟨g, 0, none⟩) n c), (1, .int .i64 x), (2, .int .i64 y), (3, .int .i64 q.1), (8, .bool wb), (9, .bool wp), (10, .int .i64 ((y - x : Nat) : Int))]) (fun q => arU g q.2 sp :: r) ?hj10 (fun hk10 => ?hf10)
      case hf10 =>
        refine J.seq ?_
        refine J.region ?_
        refine JL.step (y_move rfl) rfl rfl rfl (JL.step (y_not rfl) rfl rfl rfl ?_)
        refine JL.nil ?_
        refine JE.then_normal ?_
        first | apply J.cond_dec rfl | apply J.cond rfl
        case' ht =>
          intro h
          try (first | (exfalso; omega) | (cases h; done) | (exfalso; simp at h; done) | subst h)
          all_goals
            refine J.seq ?_
            refine J.region ?_
            refine JL.step (y_move rfl) rfl rfl rfl (JL.step (y_move rfl) rfl rfl rfl (JL.step (y_move rfl) rfl rfl rfl ?_))
            refine JL.loud rfl (l_callF e99 rfl rfl (Fc.on (Split.cons (by (repeat (first | exact Pick.head | apply Pick.tail | apply Pick.app))) Split.nil) (brkU E g c n x y _ _ d1 sp _ rfl rfl hs1 (by omega) (by omega) h63)) ?_)
            rintro _ _ ⟨rfl, db, hdb, rfl⟩
            refine JL.nil ?_
            refine JE.then_normal ?_
            refine J.region ?_
            refine JL.step (y_move rfl) rfl rfl rfl ?_
            refine JL.step (y_sub rfl rfl (by (first | exact wrap_i64 (by omega) (by omega) | rfl))) rfl rfl rfl ?_
            refine JL.step (y_assign rfl) rfl rfl rfl ?_
            refine JL.nil ?_
        case' hf =>
          intro h
          try (first | (exfalso; omega) | (cases h; done) | (exfalso; simp at h; done) | subst h)
          all_goals
            refine J.skip ?_
        all_goals refine JE.then_normal ?_
        all_goals
          first | exact J.closeK hk10 (IntKind.i64.wrap (lm0 - 1), db) ⟨(by omega : x + 12 < y), hdb⟩ ⟨rfl, rfl, rfl, rfl, rfl, rfl, (congrArg (fun z => some (Value.int .i64 z)) (by first | omega | (dsimp only; omega))), trivial⟩ (fun w h => h) | exact J.closeK hk10 (lm0, d1) ⟨(by omega : x + 12 < y), Sort.permIn_refl _ _ _⟩ ⟨rfl, rfl, rfl, rfl, rfl, rfl, (congrArg (fun z => some (Value.int .i64 z)) (by first | omega | (dsimp only; omega))), trivial⟩ (fun w h => h)
      rintro ⟨lm, d2⟩ ⟨hlen, hp2⟩
      try dsimp only at hlen hp2 ⊢
      have hs2 : d2.size = n := by rw [hp2.1]; exact hs1
      refine J.seq ?_
      refine J.region ?_
      refine JL.step (y_move rfl) rfl rfl rfl (JL.step (y_move rfl) rfl rfl rfl (JL.step (y_move rfl) rfl rfl rfl ?_))
      refine JL.loud rfl (l_callF e100 rfl rfl (Fc.on (Split.cons (by (repeat (first | exact Pick.head | apply Pick.tail | apply Pick.app))) Split.nil) (pivotU E g c n x y _ _ d2 sp _ rfl rfl hs2 (by omega) (by omega) h63)) ?_)
      rintro _ _ ⟨pv, hint, rfl, hv1, hv2, rfl⟩
      refine JL.step (y_move rfl) rfl rfl rfl (JL.step (y_extract rfl rfl) rfl rfl rfl (JL.step (y_extract rfl rfl) rfl rfl rfl (JL.step (y_assign rfl) rfl rfl rfl (JL.step (y_assign rfl) rfl rfl rfl ?_))))
      refine JL.nil ?_
      refine JE.then_normal ?_
      refine J.seqK (α := Nat × Int × Array Int) (fun q => x ≤ q.1 ∧ q.1 < y ∧ x + 12 < y ∧ Sort.PermIn x y d1 q.2.2) (fun q => [(0, .slice (some ⟨g, 0, none⟩) n c), (1, .int .i64 x), (2, .int .i64 y), (3, .int .i64 lm), (8, .bool wb), (9, .bool wp), (10, .int .i64 ((y - x : Nat) : Int)), (11, .int .i64 q.1), (12, .int .i64 q.2.1)]) (fun q => arU g q.2.2 sp :: r) ?hj15 (fun hk15 => ?hf15)
      case hf15 =>
        refine J.seq ?_
        refine J.region ?_
        refine JL.step (y_move rfl) rfl rfl rfl (JL.step (y_eql rfl rfl) rfl rfl rfl ?_)
        refine JL.nil ?_
        refine JE.then_normal ?_
        first | apply J.cond_dec rfl | apply J.cond rfl
        case' ht =>
          intro h
          try (first | (exfalso; omega) | (cases h; done) | (exfalso; simp at h; done) | subst h)
          all_goals
            refine J.seq ?_
            refine J.region ?_
            refine JL.step (y_move rfl) rfl rfl rfl (JL.step (y_move rfl) rfl rfl rfl (JL.step (y_move rfl) rfl rfl rfl ?_))
            refine JL.loud rfl (l_callF e101 rfl rfl (Fc.on (Split.cons (by (repeat (first | exact Pick.head | apply Pick.tail | apply Pick.app))) Split.nil) (revU E g c n x y _ _ d2 sp _ rfl rfl hs2 (by omega) (by omega) h63)) ?_)
            rintro _ _ ⟨rfl, rfl⟩
            refine JL.nil ?_
            refine JE.then_normal ?_
            refine J.seq ?_
            refine J.region ?_
            refine JL.step (y_move rfl) rfl rfl rfl ?_
            refine JL.step (y_sub rfl rfl (by (first | exact wrap_i64 (by omega) (by omega) | rfl))) rfl rfl rfl ?_
            refine JL.step (y_move rfl) rfl rfl rfl (JL.step (y_move rfl) rfl rfl rfl ?_)
            refine JL.step (y_sub rfl rfl (by (first | exact wrap_i64 (by omega) (by omega) | rfl))) rfl rfl rfl ?_
            refine JL.step (y_sub rfl rfl (by (first | exact wrap_i64 (by omega) (by omega) | rfl))) rfl rfl rfl ?_
            refine JL.step (y_assign rfl) rfl rfl rfl ?_
            refine JL.nil ?_
            refine JE.then_normal ?_
            refine J.region ?_
            refine JL.step (y_assign rfl) rfl rfl rfl ?_
            refine JL.nil ?_
        case' hf =>
          intro h
          try (first | (exfalso; omega) | (cases h; done) | (exfalso; simp at h; done) | subst h)
          all_goals
            refine J.skip ?_
        all_goals refine JE.then_normal ?_
        all_goals
          first | exact J.closeK hk15 (y - 1 - (pv - x), 1, Sort.reverseRange d2 x y) ⟨by dsimp only; omega, by dsimp only; omega, hlen, Sort.permIn_trans _ _ _ _ _ hp2 (Sort.reverseRange_holds d2 x y hxy (by omega))⟩ ⟨rfl, rfl, rfl, rfl, rfl, rfl, rfl, (congrArg (fun z => some (Value.int .i64 z)) (by first | omega | (dsimp only; omega))), rfl, trivial⟩ (fun w h => h) | exact J.closeK hk15 (pv, hint, d2) ⟨hv1, hv2, hlen, hp2⟩ ⟨rfl, rfl, rfl, rfl, rfl, rfl, rfl, rfl, rfl, trivial⟩ (fun w h => h)
      rintro ⟨pv, hint, d2⟩ ⟨hv1, hv2, hlen, hp2⟩
      try dsimp only at hv1 hv2 hlen hp2 ⊢
      have hs2 : d2.size = n := by rw [hp2.1]; exact hs1
      have hB2 := hB1.perm (by omega) hp2
      have hpi := Sort.partialInsertionSort_holds hS d2 x y (by omega) (by omega) hB2
      refine J.seqK (α := Array Int) (fun q => Sort.PermIn x y d1 q) (fun q => [(0, .slice (some ⟨g, 0, none⟩) n c), (1, .int .i64 x), (2, .int .i64 y), (3, .int .i64 lm), (8, .bool wb), (9, .bool wp), (10, .int .i64 ((y - x : Nat) : Int)), (11, .int .i64 pv)]) (fun q => arU g q sp :: r) ?hj17 (fun hk17 => ?hf17)
      case hf17 =>
        refine J.seq ?_
        refine J.region ?_
        refine JL.step (y_move rfl) rfl rfl rfl (JL.step (y_move rfl) rfl rfl rfl ?_)
        all_goals (first | (refine JL.gsplit_dec rfl rfl rfl (fun h => ?_) (fun h => ?_) <;> try (first | (exfalso; omega) | exact absurd rfl h)) | (refine JL.gsplit rfl rfl rfl (fun h => ?_) (fun h => ?_) <;> try (first | cases h | (exfalso; simp at h; done))) | skip)
        all_goals (first | refine JL.gskip rfl rfl rfl rfl rfl rfl ?_ | refine JL.gskipU rfl rfl rfl rfl rfl ?_ | refine JL.gstep rfl rfl rfl (y_move rfl) rfl rfl ?_)
        all_goals (refine JL.step (y_pick rfl rfl rfl) rfl rfl rfl ?_)
        all_goals (refine JL.step (y_move rfl) rfl rfl rfl ?_)
        all_goals (first | (refine JL.gsplit_dec rfl rfl rfl (fun h => ?_) (fun h => ?_) <;> try (first | (exfalso; omega) | exact absurd rfl h)) | (refine JL.gsplit rfl rfl rfl (fun h => ?_) (fun h => ?_) <;> try (first | cases h | (exfalso; simp at h; done))) | skip)
        all_goals (first | refine JL.gskip rfl rfl rfl rfl rfl rfl ?_ | refine JL.gskipU rfl rfl rfl rfl rfl ?_ | refine JL.gstep rfl rfl rfl (y_move rfl) rfl rfl ?_)
        all_goals (first | refine JL.gskip rfl rfl rfl rfl rfl rfl ?_ | refine JL.gskipU rfl rfl rfl rfl rfl ?_ | refine JL.gstep rfl rfl rfl (y_eql rfl rfl) rfl rfl ?_)
        all_goals (refine JL.step (y_pick rfl rfl rfl) rfl rfl rfl ?_)
        all_goals refine JL.nil ?_
        all_goals refine JE.then_normal ?_
        all_goals
          first | apply J.cond_dec rfl | apply J.cond rfl
          case' ht =>
            intro h
            try (first | (exfalso; omega) | (cases h; done) | (exfalso; simp at h; done) | subst h)
            all_goals
              refine J.seq ?_
              refine J.region ?_
              refine JL.step (y_move rfl) rfl rfl rfl (JL.step (y_move rfl) rfl rfl rfl (JL.step (y_move rfl) rfl rfl rfl ?_))
              refine JL.loud rfl (l_callF e102 rfl rfl (Fc.on (Split.cons (by (repeat (first | exact Pick.head | apply Pick.tail | apply Pick.app))) Split.nil) (pinsU E g c n x y _ _ d2 sp _ rfl rfl hs2 (by omega) (by omega) h63)) ?_)
              rintro _ _ ⟨rfl, rfl⟩
              refine JL.nil ?_
              refine JE.then_normal ?_
              first | apply J.cond_dec rfl | apply J.cond rfl
              case' ht =>
                intro h
                try (first | (exfalso; omega) | (cases h; done) | (exfalso; simp at h; done) | subst h)
                all_goals
                  have hfin := hg1 _ (Sort.permIn_trans _ _ _ _ _ hp2 hpi.1) (hpi.2 h)
                  refine J.ret ?_
                  refine JE.then_ret ?_
                  refine JE.block_ret ?_
                  refine JE.then_ret ?_
                  refine JE.block_ret ?_
                  refine JE.ret0 (.inl rfl) rfl rfl  ?_
                  exact ⟨_, fun w h => h, rfl, _, hfin.1, hfin.2, rfl⟩
              case' hf =>
                intro h
                try (first | (exfalso; omega) | (cases h; done) | (exfalso; simp at h; done) | subst h)
                all_goals
                  refine J.skip ?_
          case' hf =>
            intro h
            try (first | (exfalso; omega) | (cases h; done) | (exfalso; simp at h; done) | subst h)
            all_goals
              refine J.skip ?_
        all_goals refine JE.then_normal ?_
        all_goals
          first | exact J.closeK hk17 (Sort.partialInsertionSort Sort.ltInt d2 x y).1 (Sort.permIn_trans _ _ _ _ _ hp2 hpi.1) ⟨rfl, rfl, rfl, rfl, rfl, rfl, rfl, rfl, trivial⟩ (fun w h => h) | exact J.closeK hk17 d2 hp2 ⟨rfl, rfl, rfl, rfl, rfl, rfl, rfl, rfl, trivial⟩ (fun w h => h)
      rintro d3 hp3
      try dsimp only at hp3 ⊢
      have hs3 : d3.size = n := by rw [hp3.1]; exact hs1
      have hB3 := hB1.perm (by omega) hp3
      refine J.seq ?_
      refine J.seq ?_
      by_cases hg : 0 < x
      all_goals
        refine J.draw _ _ [(0, .q), (1, .q), (2, .q), (3, .q), (4, .q), (5, .q), (6, .q), (7, .q), (8, .q), (9, .q), (10, .q), (11, .q), (12, .q), (13, .q), (14, .q)] mixed (by kernel_rfl) (Split.nil) ?_
        refine JM.quiet rfl rfl rfl rfl (fun m => y_move rfl) ?_
        first | refine JM.quiet rfl rfl rfl rfl (fun m => y_gtrB rfl rfl (decide_eq_true (by omega))) ?_ | refine JM.quiet rfl rfl rfl rfl (fun m => y_gtrB rfl rfl (decide_eq_false (by omega))) ?_
        refine JM.quiet rfl rfl rfl rfl (fun m => y_move rfl) ?_
        all_goals (first | refine JM.gskip rfl rfl rfl rfl rfl rfl rfl ?_ | refine JM.gskipU rfl rfl rfl rfl rfl rfl ?_ | refine JM.gquiet rfl rfl rfl rfl rfl rfl (fun m => y_move rfl) ?_)
        all_goals (first | refine JM.gskip rfl rfl rfl rfl rfl rfl rfl ?_ | refine JM.gskipU rfl rfl rfl rfl rfl rfl ?_ | refine JM.gquiet rfl rfl rfl rfl rfl rfl (fun m => y_move rfl) ?_)
        all_goals (first | refine JM.gskip rfl rfl rfl rfl rfl rfl rfl ?_ | refine JM.gskipU rfl rfl rfl rfl rfl rfl ?_ | refine JM.gquiet rfl rfl rfl rfl rfl rfl (fun m => y_sub rfl rfl (by (first | exact wrap_i64 (by omega) (by omega) | rfl))) ?_)
        all_goals (first | refine JM.gskip rfl rfl rfl rfl rfl rfl rfl ?_ | refine JM.gskipU rfl rfl rfl rfl rfl rfl ?_ | refine JM.gquiet rfl rfl rfl rfl rfl rfl (fun m => y_indexAddr_slice hT rfl rfl rfl rfl rfl (by (first | omega | exact Nat.le_of_ble_eq_true rfl | decide | (simp; omega))) (by (first | omega | exact Nat.le_of_ble_eq_true rfl | decide | (simp; omega)))) ?_)
        all_goals (first | refine JM.gskip rfl rfl rfl rfl rfl rfl rfl ?_ | refine JM.gskipU rfl rfl rfl rfl rfl rfl ?_ | refine JM.gquiet rfl rfl rfl rfl rfl rfl (fun m => y_load1 hT rfl rfl rfl (Rd1.arr (i := (x - 1)) (Pick.app m (by (repeat (first | exact Pick.head | apply Pick.tail | apply Pick.app)))) (by (first | assumption | omega | (simp only [Array.size_setIfInBounds]; omega))) (by exact arr_off rfl (by omega)))) ?_)
        all_goals (first | refine JM.gskip rfl rfl rfl rfl rfl rfl rfl ?_ | refine JM.gskipU rfl rfl rfl rfl rfl rfl ?_ | refine JM.gquiet rfl rfl rfl rfl rfl rfl (fun m => y_move rfl) ?_)
        all_goals (first | refine JM.gskip rfl rfl rfl rfl rfl rfl rfl ?_ | refine JM.gskipU rfl rfl rfl rfl rfl rfl ?_ | refine JM.gquiet rfl rfl rfl rfl rfl rfl (fun m => y_move rfl) ?_)
        all_goals (first | refine JM.gskip rfl rfl rfl rfl rfl rfl rfl ?_ | refine JM.gskipU rfl rfl rfl rfl rfl rfl ?_ | refine JM.gquiet rfl rfl rfl rfl rfl rfl (fun m => y_indexAddr_slice hT rfl rfl rfl rfl rfl (by (first | omega | exact Nat.le_of_ble_eq_true rfl | decide | (simp; omega))) (by (first | omega | exact Nat.le_of_ble_eq_true rfl | decide | (simp; omega)))) ?_)
        all_goals (first | refine JM.gskip rfl rfl rfl rfl rfl rfl rfl ?_ | refine JM.gskipU rfl rfl rfl rfl rfl rfl ?_ | refine JM.gquiet rfl rfl rfl rfl rfl rfl (fun m => y_load1 hT rfl rfl rfl (Rd1.arr (i := (pv)) (Pick.app m (by (repeat (first | exact Pick.head | apply Pick.tail | apply Pick.app)))) (by (first | assumption | omega | (simp only [Array.size_setIfInBounds]; omega))) (by exact arr_off rfl (by omega)))) ?_)
        all_goals (first | refine JM.gskip rfl rfl rfl rfl rfl rfl rfl ?_ | refine JM.gskipU rfl rfl rfl rfl rfl rfl ?_ | refine JM.gquiet rfl rfl rfl rfl rfl rfl (fun m => y_callF e103 rfl (lessU E _ _ _)) ?_)
        all_goals (first | refine JM.gskip rfl rfl rfl rfl rfl rfl rfl ?_ | refine JM.gskipU rfl rfl rfl rfl rfl rfl ?_ | refine JM.gquiet rfl rfl rfl rfl rfl rfl (fun m => y_not rfl) ?_)
        all_goals refine JM.quiet rfl rfl rfl rfl (fun m => y_pick rfl rfl rfl) ?_
        all_goals refine JM.nil ?_
      all_goals refine JE.then_normal ?_
      all_goals
        first | apply J.cond_dec rfl | apply J.cond rfl
        case' ht =>
          intro h
          try (first | (exfalso; omega) | (cases h; done) | (exfalso; simp at h; done) | subst h)
          all_goals
            obtain ⟨q1, q2, q3, q4, q5⟩ := Sort.round_eq (mid := (Sort.partitionEqual Sort.ltInt d3 x y pv).1) (d4 := (Sort.partitionEqual Sort.ltInt d3 x y pv).2) hS (Sort.partitionEqual_holds _) hg hv1 hv2 (by omega) hB3 (by simpa using h) rfl
            refine J.seq ?_
            refine J.region ?_
            refine JL.step (y_move rfl) rfl rfl rfl (JL.step (y_move rfl) rfl rfl rfl (JL.step (y_move rfl) rfl rfl rfl (JL.step (y_move rfl) rfl rfl rfl ?_)))
            refine JL.loud rfl (l_callF e104 rfl rfl (Fc.on (Split.cons (by (repeat (first | exact Pick.head | apply Pick.tail | apply Pick.app))) Split.nil) (partEqU E g c n x y pv _ _ _ d3 sp _ rfl rfl rfl hs3 hv1 hv2 (by omega) h63)) ?_)
            rintro _ _ ⟨rfl, rfl⟩
            refine JL.step (y_assign rfl) rfl rfl rfl ?_
            refine JL.nil ?_
            refine JE.then_normal ?_
            refine J.seq ?_
            refine J.region ?_
            refine JL.step (y_move rfl) rfl rfl rfl (JL.step (y_assign rfl) rfl rfl rfl ?_)
            refine JL.nil ?_
            refine JE.then_normal ?_
            refine J.exit ?_
            refine JE.then_exit ?_
            refine JE.block_exit ?_
            first
            | exact JE.round (s := (x, y, lm0, wb, wp, d1)) ((Sort.partitionEqual Sort.ltInt d3 x y pv).1, y, lm, wb, wp, (Sort.partitionEqual Sort.ltInt d3 x y pv).2) ⟨by dsimp only; omega, q2, hy, by dsimp only; rw [q3]; exact hs3, q4, fun R k1 k2 => hg1 R (Sort.permIn_trans _ _ _ _ _ hp3 (q5 R k1 k2).1) (q5 R k1 k2).2⟩ ⟨rfl, rfl, rfl, rfl, rfl, rfl, trivial⟩ (fun w h => h) (by dsimp only; omega)
            | exact JE.round (s := (x, y, lm0, wb, wp, d1)) (mid + 1, y, lm, _, ap, dl) ⟨by dsimp only; omega, by dsimp only; omega, hy, by dsimp only; rw [hl1.1, q3]; exact hs3, (q6 dl hl1 hl2).1, fun R k1 k2 => hg1 R (Sort.permIn_trans _ _ _ _ _ hp3 ((q6 dl hl1 hl2).2 R k1 k2).1) ((q6 dl hl1 hl2).2 R k1 k2).2⟩ ⟨rfl, (congrArg (fun z => some (Value.int .i64 z)) (by first | omega | (dsimp only; omega))), rfl, rfl, rfl, rfl, trivial⟩ (fun w h => h) (by dsimp only; omega)
            | exact JE.round (s := (x, y, lm0, wb, wp, d1)) (x, mid, lm, _, ap, dr) ⟨hx, q1, by dsimp only; omega, by dsimp only; rw [hr1.1, q3]; exact hs3, (q7 dr hr1 hr2).1, fun R k1 k2 => hg1 R (Sort.permIn_trans _ _ _ _ _ hp3 ((q7 dr hr1 hr2).2 R k1 k2).1) ((q7 dr hr1 hr2).2 R k1 k2).2⟩ ⟨rfl, rfl, rfl, rfl, rfl, rfl, trivial⟩ (fun w h => h) (by dsimp only; omega)
        case' hf =>
          intro h
          try (first | (exfalso; omega) | (cases h; done) | (exfalso; simp at h; done) | subst h)
          all_goals
            obtain ⟨q1, q2, q3, q4, q5, q6, q7⟩ := Sort.round_part (mid := (Sort.partition Sort.ltInt d3 x y pv).1) (ap := (Sort.partition Sort.ltInt d3 x y pv).2.1) (d4 := (Sort.partition Sort.ltInt d3 x y pv).2.2) hS (Sort.partition_holds _) hv1 hv2 (by omega) hB3 rfl
            refine J.skip ?_
      all_goals refine JE.then_normal ?_
      all_goals
        refine J.seq ?_
        refine J.region ?_
        refine JL.step (y_move rfl) rfl rfl rfl (JL.step (y_move rfl) rfl rfl rfl (JL.step (y_move rfl) rfl rfl rfl (JL.step (y_move rfl) rfl rfl rfl ?_)))
        refine JL.loud rfl (l_callF e105 rfl rfl (Fc.on (Split.cons (by (repeat (first | exact Pick.head | apply Pick.tail | apply Pick.app))) Split.nil) (partU E g c n x y pv _ _ _ d3 sp _ rfl rfl rfl hs3 hv1 hv2 (by omega) h63)) ?_)
        rintro _ _ ⟨rfl, rfl⟩
        refine JL.step (y_move rfl) rfl rfl rfl (JL.step (y_extract rfl rfl) rfl rfl rfl (JL.step (y_extract rfl rfl) rfl rfl rfl (JL.step (y_assign rfl) rfl rfl rfl (JL.step (y_assign rfl) rfl rfl rfl ?_))))
        refine JL.nil ?_
        refine JE.then_normal ?_
        refine J.seq ?_
        refine J.region ?_
        generalize (Sort.partition Sort.ltInt d3 x y pv).1 = mid at *
        generalize (Sort.partition Sort.ltInt d3 x y pv).2.1 = ap at *
        generalize (Sort.partition Sort.ltInt d3 x y pv).2.2 = d4 at *
        refine JL.step (y_move rfl) rfl rfl rfl (JL.step (y_assign rfl) rfl rfl rfl ?_)
        refine JL.nil ?_
        refine JE.then_normal ?_
        refine J.seq ?_
        refine J.region ?_
        refine JL.step (y_move rfl) rfl rfl rfl (JL.step (y_move rfl) rfl rfl rfl ?_)
        refine JL.step (y_sub rfl rfl (by (first | exact wrap_i64 (by omega) (by omega) | rfl))) rfl rfl rfl ?_
        refine JL.step (y_move rfl) rfl rfl rfl (JL.step (y_move rfl) rfl rfl rfl ?_)
        refine JL.step (y_sub rfl rfl (by (first | exact wrap_i64 (by omega) (by omega) | rfl))) rfl rfl rfl ?_
        refine JL.step (y_assign rfl) rfl rfl rfl (JL.step (y_assign rfl) rfl rfl rfl ?_)
        refine JL.nil ?_
        refine JE.then_normal ?_
        refine J.seq ?_
        refine J.region ?_
        refine JL.step (y_move rfl) rfl rfl rfl ?_
        refine JL.step (y_quo rfl rfl (by decide) (quo_nat (x := y - x) (k := 8) rfl (by omega))) rfl rfl rfl ?_
        refine JL.step (y_assign rfl) rfl rfl rfl ?_
        refine JL.nil ?_
        refine JE.then_normal ?_
        refine J.seq ?_
        refine J.region ?_
        refine JL.step (y_move rfl) rfl rfl rfl (JL.step (y_move rfl) rfl rfl rfl (JL.step (y_lss rfl rfl) rfl rfl rfl ?_))
        refine JL.nil ?_
        refine JE.then_normal ?_
        first | apply J.cond_dec rfl | apply J.cond rfl
        case' ht =>
          intro h
          try (first | (exfalso; omega) | (cases h; done) | (exfalso; simp at h; done) | subst h)
          all_goals
            refine J.seq ?_
            refine J.region ?_
            refine JL.step (y_move rfl) rfl rfl rfl (JL.step (y_move rfl) rfl rfl rfl (JL.step (y_geq rfl rfl) rfl rfl rfl (JL.step (y_assign rfl) rfl rfl rfl ?_)))
            refine JL.nil ?_
            refine JE.then_normal ?_
            refine J.seq ?_
            refine J.region ?_
            refine JL.step (y_move rfl) rfl rfl rfl (JL.step (y_move rfl) rfl rfl rfl (JL.step (y_move rfl) rfl rfl rfl (JL.step (y_move rfl) rfl rfl rfl ?_)))
            refine JL.loud rfl (l_callF e76 rfl rfl (Fc.on (Split.cons (by (repeat (first | exact Pick.head | apply Pick.tail | apply Pick.app))) Split.nil) (ih (mid - x) (by omega) g c n x mid _ _ _ d4 sp _ (Nat.le_refl _) rfl rfl (by rw [q3]; exact hs3) q1 (by omega) q4 h63)) ?_)
            rintro _ _ ⟨rfl, dl, hl1, hl2, rfl⟩
            refine JL.nil ?_
            refine JE.then_normal ?_
            refine J.region ?_
            refine JL.step (y_move rfl) rfl rfl rfl ?_
            refine JL.step (y_add rfl rfl (by (first | exact wrap_i64 (by omega) (by omega) | rfl))) rfl rfl rfl ?_
            refine JL.step (y_assign rfl) rfl rfl rfl ?_
            refine JL.nil ?_
        case' hf =>
          intro h
          try (first | (exfalso; omega) | (cases h; done) | (exfalso; simp at h; done) | subst h)
          all_goals
            refine J.seq ?_
            refine J.region ?_
            refine JL.step (y_move rfl) rfl rfl rfl (JL.step (y_move rfl) rfl rfl rfl (JL.step (y_geq rfl rfl) rfl rfl rfl (JL.step (y_assign rfl) rfl rfl rfl ?_)))
            refine JL.nil ?_
            refine JE.then_normal ?_
            refine J.seq ?_
            refine J.region ?_
            refine JL.step (y_move rfl) rfl rfl rfl (JL.step (y_move rfl) rfl rfl rfl ?_)
            refine JL.step (y_add rfl rfl (by (first | exact wrap_i64 (by omega) (by omega) | rfl))) rfl rfl rfl ?_
            refine JL.step (y_move rfl) rfl rfl rfl (JL.step (y_move rfl) rfl rfl rfl ?_)
            refine JL.loud rfl (l_callF e76 rfl rfl (Fc.on (Split.cons (by (repeat (first | exact Pick.head | apply Pick.tail | apply Pick.app))) Split.nil) (ih (y - (mid + 1)) (by omega) g c n (mid + 1) y _ _ _ d4 sp _ (Nat.le_refl _) (by omega) rfl (by rw [q3]; exact hs3) (by omega) (by omega) q5 h63)) ?_)
            rintro _ _ ⟨rfl, dr, hr1, hr2, rfl⟩
            refine JL.nil ?_
            refine JE.then_normal ?_
            refine J.region ?_
            refine JL.step (y_move rfl) rfl rfl rfl (JL.step (y_assign rfl) rfl rfl rfl ?_)
            refine JL.nil ?_
  all_goals refine JE.block_normal ?_
  all_goals
    first
    | exact JE.round (s := (x, y, lm0, wb, wp, d1)) ((Sort.partitionEqual Sort.ltInt d3 x y pv).1, y, lm, wb, wp, (Sort.partitionEqual Sort.ltInt d3 x y pv).2) ⟨by dsimp only; omega, q2, hy, by dsimp only; rw [q3]; exact hs3, q4, fun R k1 k2 => hg1 R (Sort.permIn_trans _ _ _ _ _ hp3 (q5 R k1 k2).1) (q5 R k1 k2).2⟩ ⟨rfl, rfl, rfl, rfl, rfl, rfl, trivial⟩ (fun w h => h) (by dsimp only; omega)
    | exact JE.round (s := (x, y, lm0, wb, wp, d1)) (mid + 1, y, lm, _, ap, dl) ⟨by dsimp only; omega, by dsimp only; omega, hy, by dsimp only; rw [hl1.1, q3]; exact hs3, (q6 dl hl1 hl2).1, fun R k1 k2 => hg1 R (Sort.permIn_trans _ _ _ _ _ hp3 ((q6 dl hl1 hl2).2 R k1 k2).1) ((q6 dl hl1 hl2).2 R k1 k2).2⟩ ⟨rfl, (congrArg (fun z => some (Value.int .i64 z)) (by first | omega | (dsimp only; omega))), rfl, rfl, rfl, rfl, trivial⟩ (fun w h => h) (by dsimp only; omega)
    | exact JE.round (s := (x, y, lm0, wb, wp, d1)) (x, mid, lm, _, ap, dr) ⟨hx, q1, by dsimp only; omega, by dsimp only; rw [hr1.1, q3]; exact hs3, (q7 dr hr1 hr2).1, fun R k1 k2 => hg1 R (Sort.permIn_trans _ _ _ _ _ hp3 ((q7 dr hr1 hr2).2 R k1 k2).1) ((q7 dr hr1 hr2).2 R k1 k2).2⟩ ⟨rfl, rfl, rfl, rfl, rfl, rfl, trivial⟩ (fun w h => h) (by dsimp only; omega)
end
end
section
open Go Go.SL
section
attribute [local irreducible] J JL JE JM LS Y Fc RV Code.wp wpList Code.wpIn wpListIn
attribute [local irreducible] Yc
attribute [local irreducible] Sort.ltInt
variable (E : World)
theorem insNilU (r : List HProp) : Fc prog E 97 [.slice none 0 0, .int .i64 0, .int .i64 0].toArray r (fun v l' => v = .tuple #[] ∧ l' = r) := by
  refine Fc.of_body (c := ?codeC) Tryd.func97 ?hb Tryd.ntmps97 ?hl ?_
  case hb => exact rfl
  case hl => exact rfl
  refine J.seq ?_
  refine J.region ?_
  refine JL.step (y_move rfl) rfl rfl rfl ?_
  refine JL.step (y_add rfl rfl (by (first | exact wrap_i64 (by omega) (by omega) | rfl))) rfl rfl rfl ?_
  refine JL.step (y_assign rfl) rfl rfl rfl ?_
  refine JL.nil ?_
  refine JE.then_normal ?_
  refine J.block ?_
  refine J.loop (α := Unit) (fun _ => True) (fun _ => [(2, .int .i64 0), (6, .int .i64 1)]) (fun _ => r) (fun _ => 0) () trivial ⟨rfl, rfl, trivial⟩ (fun w h => h) ?_
  rintro _ _
  refine J.seq ?_
  refine J.seq ?_
  refine J.region ?_
  refine JL.step (y_move rfl) rfl rfl rfl (JL.step (y_move rfl) rfl rfl rfl (JL.step (y_lss rfl rfl) rfl rfl rfl ?_))
  refine JL.nil ?_
  refine JE.then_normal ?_
  refine J.cond_f rfl (by (first | rfl | assumption | (simp; done) | (simp; omega))) ?_
  refine J.exit ?_
  refine JE.then_exit ?_
  refine JE.then_exit ?_
  refine JE.block_exit ?_
  refine JE.ret0 (.inr rfl) rfl rfl  ?_
  exact ⟨rfl, rfl⟩
theorem pdqNilU (lim : Int) (r : List HProp) : Fc prog E 76 [.slice none 0 0, .int .i64 0, .int .i64 0, .int .i64 lim].toArray r (fun v l' => v = .tuple #[] ∧ l' = r) := by
  refine Fc.of_body (c := ?codeC) Tryd.func76 ?hb Tryd.ntmps76 ?hl ?_
  case hb => exact rfl
  case hl => exact rfl
  refine J.seq ?_
  refine J.region ?_
  refine JL.step (y_assign rfl) rfl rfl rfl ?_
  refine JL.nil ?_
  refine JE.then_normal ?_
  refine J.seq ?_
  refine J.region ?_
  refine JL.step (y_assign rfl) rfl rfl rfl ?_
  refine JL.nil ?_
  refine JE.then_normal ?_
  refine J.block ?_
  refine J.loop (α := Unit) (fun _ => True) (fun _ => [(0, .slice none 0 0), (1, .int .i64 0), (2, .int .i64 0)]) (fun _ => r) (fun _ => 0) () trivial ⟨rfl, rfl, rfl, trivial⟩ (fun w h => h) ?_
  rintro _ _
  refine J.block ?_
  refine J.seq ?_
  refine J.region ?_
  refine JL.step (y_move rfl) rfl rfl rfl (JL.step (y_move rfl) rfl rfl rfl ?_)
  refine JL.step (y_sub rfl rfl (by (first | exact wrap_i64 (by omega) (by omega) | rfl))) rfl rfl rfl ?_
  refine JL.step (y_assign rfl) rfl rfl rfl ?_
  refine JL.nil ?_
  refine JE.then_normal ?_
  refine J.seq ?_
  refine J.seq ?_
  refine J.region ?_
  refine JL.step (y_move rfl) rfl rfl rfl (JL.step (y_leq rfl rfl) rfl rfl rfl ?_)
  refine JL.nil ?_
  refine JE.then_normal ?_
  refine J.cond_t rfl (by (first | rfl | assumption | (simp; done) | (simp; omega))) ?_
  refine J.seq ?_
  refine J.region ?_
  refine JL.step (y_move rfl) rfl rfl rfl (JL.step (y_move rfl) rfl rfl rfl (JL.step (y_move rfl) rfl rfl rfl ?_))
  refine JL.loud rfl (l_callF e97 rfl rfl (insNilU E _) ?_)
  rintro _ _ ⟨rfl, rfl⟩
  refine JL.nil ?_
  refine JE.then_normal ?_
  refine J.ret ?_
  refine JE.then_ret ?_
  refine JE.block_ret ?_
  refine JE.then_ret ?_
  refine JE.block_ret ?_
  refine JE.ret0 (.inl rfl) rfl rfl  ?_
  exact ⟨rfl, rfl⟩
theorem sortNilU (r : List HProp) : Fc prog E 64 [.slice none 0 0].toArray r (fun v l' => v = .tuple #[] ∧ l' = r) := by
  refine Fc.of_body (c := ?codeC) Tryd.func64 ?hb Tryd.ntmps64 ?hl ?_
  case hb => exact rfl
  case hl => exact rfl
  refine J.seq ?_
  refine J.region ?_
  refine JL.step (y_move rfl) rfl rfl rfl (JL.step (y_len_slice hT rfl rfl rfl) rfl rfl rfl (JL.step (y_assign rfl) rfl rfl rfl ?_))
  refine JL.nil ?_
  refine JE.then_normal ?_
  refine J.region ?_
  refine JL.step (y_move rfl) rfl rfl rfl (JL.step (y_move rfl) rfl rfl rfl (JL.step (y_move rfl) rfl rfl rfl ?_))
  refine JL.step (y_conv (m := 0) hT rfl rfl rfl rfl rfl) rfl rfl rfl ?_
  refine JL.loud rfl (l_callF e74 rfl rfl (lenU E _ 0 _ rfl (by omega)) ?_)
  rintro _ _ ⟨k, rfl, _, _, rfl⟩
  refine JL.loud rfl (l_callF e76 rfl rfl (pdqNilU E _ _) ?_)
  rintro _ _ ⟨rfl, rfl⟩
  refine JL.nil ?_
  all_goals
    refine JE.ret0 (.inr rfl) rfl rfl  ?_
    exact ⟨rfl, rfl⟩
theorem sortRowU (hS : Sort.SWO Sort.ltInt) (g c n : Nat) (d : Array Int) (sp : List Value) (r : List HProp) (hn : d.size = n) (h63 : n < 4611686018427387904) :
    Fc prog E 64 [.slice (some ⟨g, 0, none⟩) n c].toArray (arU g d sp :: r) (fun v l' => v = .tuple #[] ∧ ∃ d', Sort.PermIn 0 n d d' ∧ Sort.SortedIn Sort.ltInt 0 n d' ∧ l' = arU g d' sp :: r) := by
  refine Fc.post ?_
  refine Fc.of_body (c := ?codeC) Tryd.func64 ?hb Tryd.ntmps64 ?hl ?_
  case hb => exact rfl
  case hl => exact rfl
  refine J.seq ?_
  refine J.region ?_
  refine JL.step (y_move rfl) rfl rfl rfl (JL.step (y_len_slice hT rfl rfl rfl) rfl rfl rfl (JL.step (y_assign rfl) rfl rfl rfl ?_))
  refine JL.nil ?_
  refine JE.then_normal ?_
  refine J.region ?_
  refine JL.step (y_move rfl) rfl rfl rfl (JL.step (y_move rfl) rfl rfl rfl (JL.step (y_move rfl) rfl rfl rfl ?_))
  refine JL.step (y_conv (m := (n : Int)) hT rfl rfl rfl rfl (wrap_u64n (by omega))) rfl rfl rfl ?_
  refine JL.loud rfl (l_callF e74 rfl rfl (lenU E _ n _ rfl (by omega)) ?_)
  rintro _ _ ⟨k, rfl, _, _, rfl⟩
  refine JL.loud rfl (l_callF e76 rfl rfl (Fc.on (Split.cons (by (repeat (first | exact Pick.head | apply Pick.tail | apply Pick.app))) Split.nil) (pdqU E hS (n - 0) g c n 0 n _ _ _ d sp _ (Nat.le_refl _) rfl rfl hn (Nat.zero_le _) (Nat.le_refl _) (.inl rfl) h63)) ?_)
  rintro _ _ ⟨rfl, d2, h1, h2, rfl⟩
  refine JL.nil ?_
  all_goals
    refine JE.ret0 (.inr rfl) rfl rfl  ?_
    exact ⟨_, fun w h => h, rfl, d2, h1, h2, rfl⟩
/-- slices.Sort. -/
theorem sortU (hS : Sort.SWO Sort.ltInt) (n : Nat) (v : Value) (zs : List Int) (r : List HProp) (hz : zs.length = n) (h63 : n < 4611686018427387904) :
    Fc prog E 64 [v].toArray (own 35 1 v n (zs.map (Value.int .u64)) :: r) (fun u l' => u = .tuple #[] ∧ ∃ ys : List Int, ys.Perm zs ∧ (ys.Pairwise fun x y => Sort.ltInt y x = false) ∧ l' = own 35 1 v n (ys.map (Value.int .u64)) :: r) := by
  refine Fc.owns (fun e1 e2 e3 => ?_) (fun g cap sp e1 h1 h2 h3 h4 => ?_)
  · subst e1 e2
    obtain rfl : zs = [] := List.eq_nil_of_length_eq_zero hz
    exact Fc.post ((sortNilU E r).mono fun u l' ⟨a, b⟩ => ⟨own 35 1 (.slice none 0 0) 0 [] :: r, fun w h => Sat.own_nil (b ▸ h), a, [], List.Perm.refl _, List.Pairwise.nil, rfl⟩)
  · subst e1
    have hd : zs.toArray.size = n := by simpa using hz
    refine Fc.post (((sortRowU E hS g cap n zs.toArray sp r hd h63).imp fun w s => ?_).mono fun u l' ⟨a, d', p1, p2, b⟩ => ?_)
    · have e : zs.map (Value.int .u64) = zs.toArray.toList.flatMap fun x => [(Value.int .u64) x] := List.map_eq_flatMap
      rw [e] at s
      exact s
    · have hl : d'.toList.length = n := by rw [Array.length_toList, p1.1]; exact hd
      refine ⟨own 35 1 (.slice (some ⟨g, 0, none⟩) n cap) n (d'.toList.map (Value.int .u64)) :: r, fun w h => ?_, a, d'.toList, perm_in hd p1, sorted_in (p1.1.trans hd) p2, rfl⟩
      have e : d'.toList.map (Value.int .u64) = d'.toList.flatMap fun x => [(Value.int .u64) x] := List.map_eq_flatMap
      have s : Sat E (stars (row g 35 (d'.toList.map (Value.int .u64) ++ sp) :: r)) w := by
        rw [e]
        rw [b] at h
        exact h
      refine s.owned h1 h2 (by rw [List.length_map, hl, Nat.mul_one]) ?_
      rw [List.length_append, List.length_map] at h4 ⊢
      omega
end
end
section
open Go Go.SL
section
attribute [local irreducible] J JL JE JM LS Y Fc RV Code.wp wpList Code.wpIn wpListIn
attribute [local irreducible] Yc Sort.ltInt
variable (E : World)
/-- An iterator over numbers: it hands them on, one by one. -/
def IterU (fi : FuncId) (b N : Nat) (Q : List Int → Prop) (A : HProp) (l : List HProp) : Prop :=
  ∀ (k : Nat) (St : List Int → List HProp), (∀ (fr : List HProp) (vs : List Int) (a : Int), vs.length < N → Yc prog E k [Value.int .u64 a].toArray (St vs ++ fr) (fun v l' => v = .bool true ∧ l' = St (vs ++ [a]) ++ fr)) →
    Fc prog E fi [.func (.yield k) #[] #[], Value.pointer (some ⟨b, 0, none⟩)].toArray (A :: (St [] ++ l)) (fun _ l' => ∃ vs, Q vs ∧ l' = A :: (St vs ++ l))
def numsM (bo : Nat) (vs : List Int) : HProp := pk fun q : Option Addr × Nat => [row bo 32 [.slice q.1 vs.length q.2], own 35 1 (.slice q.1 vs.length q.2) vs.length (vs.map (Value.int .u64))]
theorem aseqU {fi : FuncId} {b N : Nat} {Q : List Int → Prop} {A : HProp} {l : List HProp} (eF : Ent prog fi) (hI : IterU E fi b N Q A l) (hN : N ≤ 1000000) :
    Fc prog E 75 [.slice none 0 0, .func (.func fi) #[] [Value.pointer (some ⟨b, 0, none⟩)].toArray].toArray (A :: l)
      (fun v l' => ∃ (vs : List Int) (a : Option Addr) (c : Nat), Q vs ∧ v = .slice a vs.length c ∧ l' = own 35 1 v vs.length (vs.map (Value.int .u64)) :: A :: l) := by
  refine Fc.post ?_
  refine Fc.of_bodyM (c := ?codeC) Tryd.func75 ?hb Tryd.ntmps75 ?hl ?_
  case hb => exact rfl
  case hl => exact rfl
  refine J.seq ?_
  refine J.region ?_
  refine JL.loud rfl (l_box rfl (by (first | rfl | simp)) rfl (fun b1 => ?_))
  refine JL.step (y_assign rfl) rfl rfl rfl ?_
  refine JL.nil ?_
  refine JE.then_normal ?_
  refine J.seq ?_
  refine J.seq ?_
  refine J.region ?_
  refine JL.step (y_move rfl) rfl rfl rfl ?_
  refine JL.nil ?_
  refine JE.then_normal ?_
  refine J.block ?_
  refine J.rangeFunc eF rfl fun fn a0 k DD K hK hf0 => ?_
  refine Fc.mono (Fc.imp (hI k (fun vs => [numsM b1 vs, K .ready none, blk DD (.deferred (some []))]) (fun fr vs a hlt => ?hy)) ?hi) ?hm
  case hi =>
    intro w s
    have s2 := s.own_nil (e := 35) (size := 1)
    have s3 := s2.divide (p := [row b1 32 [.slice none 0 0], own 35 1 (.slice none 0 0) 0 []]) (Split.cons (by (repeat (first | exact Pick.head | apply Pick.tail | apply Pick.app))) (Split.cons (by (repeat (first | exact Pick.head | apply Pick.tail | apply Pick.app))) Split.nil))
    have s5 : Sat E (stars (numsM b1 [] :: _)) w := s3.topk (none, 0)
    exact s5.sup (by (repeat (first | exact Sup.refl | apply Sup.cons (by (repeat (first | exact Pick.head | apply Pick.tail | apply Pick.app))) | apply Sup.app | apply Sup.skip | apply Sup.skips)))
  case hy =>
    unfold numsM
    refine Yc.split (p := [pk _]) (Yc.pks fun q => ?_) (Split.cons Pick.head Split.nil)
    obtain ⟨qa, qc⟩ := q
    dsimp only
    refine Yc.split (p := [K .ready none]) ?_ (Split.cons (by (repeat (first | exact Pick.head | apply Pick.tail | apply Pick.app))) Split.nil)
    refine Yc.post ?_
    refine Yc.of_body hK hf0 rfl (by decide) ?_
    refine J.region ?_
    refine JL.step (y_assign rfl) rfl rfl rfl ?_
    refine JL.nil ?_
    refine JE.assigned (by (repeat (first | exact Pick.head | apply Pick.tail | apply Pick.app))) ?_
    refine J.block ?_
    refine J.region ?_
    refine JL.step (y_load1 hT rfl rfl rfl (by (exact Rd1.row (by (repeat (first | exact Pick.head | apply Pick.tail | apply Pick.app))) (by rfl)))) rfl rfl rfl ?_
    refine JL.step (y_move rfl) rfl rfl rfl ?_
    refine JL.loud rfl (l_buildSliceP hT rfl rfl rfl rfl rfl rfl rfl (by (first | exact fill_one rfl (by first | assumption | rfl | (simp; done)) | rfl | simp)) rfl (fun b2 => ?_))
    refine JL.loud rfl (l_append hT rfl rfl rfl rfl rfl rfl rfl rfl (by (repeat (first | exact Pick.head | apply Pick.tail | apply Pick.app))) (by (first | exact RdN.rowAll (by (repeat (first | exact Pick.head | apply Pick.tail | apply Pick.app))) | exact RdN.own (by (repeat (first | exact Pick.head | apply Pick.tail | apply Pick.app))))) (by (first | rfl | assumption | (simp; done) | omega)) (by (first | assumption | exact ones_of rfl | exact encW_one _ | exact encB_one _ | (intro u hu; simp at hu; rcases hu with rfl | rfl <;> rfl) | (intro u hu; simp at hu; subst hu; rfl) | simp)) (by rw [show i35.bytes = 8 from rfl]; omega) (by omega) rfl (fun na nc hnc => ?_))
    refine JL.loud rfl (l_store1 hT rfl rfl rfl rfl rfl (by (repeat (first | exact Pick.head | apply Pick.tail | apply Pick.app))) (by (first | omega | exact Nat.le_of_ble_eq_true rfl | decide | (simp; omega))) ?_)
    refine JL.nil ?_
    refine JE.block_normal ?_
    all_goals
      refine JE.round_on hK (by (repeat (first | exact Pick.head | apply Pick.tail | apply Pick.app))) ?_
      refine ⟨[numsM b1 (vs ++ [a]), K .ready none, blk DD (.deferred (some []))] ++ fr, fun w q => ?_, rfl, rfl⟩
      have q1 := q.sup (p := row b1 32 [.slice na (vs.length + 1) nc] :: own 35 1 (.slice na (vs.length + 1) nc) (vs.length + 1) (vs.map (Value.int .u64) ++ [(Value.int .u64) a]) :: K .ready none :: blk DD (.deferred (some [])) :: fr) (by (repeat (first | exact Sup.refl | apply Sup.cons (by (repeat (first | exact Pick.head | apply Pick.tail | apply Pick.app))) | apply Sup.app | apply Sup.skip | apply Sup.skips)))
      refine Sat.topk (F := fun q : Option Addr × Nat => [row b1 32 [.slice q.1 (vs ++ [a]).length q.2], own 35 1 (.slice q.1 (vs ++ [a]).length q.2) (vs ++ [a]).length ((vs ++ [a]).map (Value.int .u64))]) (na, nc) ?_
      dsimp only
      rw [List.length_append, List.map_append]
      exact q1
  case hm =>
    rintro _ _ ⟨vs, hvp, rfl⟩
    refine ⟨.ready, none, _, by (repeat (first | exact Pick.head | apply Pick.tail | apply Pick.app)), by simp, ?_⟩
    dsimp only
    unfold numsM
    refine JE.picks (Pick.tail Pick.head) (JE.pks fun q => ?_)
    obtain ⟨qa, qc⟩ := q
    dsimp only
    refine JE.block_normal ?_
    refine JE.then_normal ?_
    refine J.seq ?_
    refine J.region ?_
    refine JL.step (y_load1 hT rfl rfl rfl (by (exact Rd1.row (by (repeat (first | exact Pick.head | apply Pick.tail | apply Pick.app))) (by rfl)))) rfl rfl rfl ?_
    refine JL.step (y_assign rfl) rfl rfl rfl ?_
    refine JL.nil ?_
    refine JE.then_normal ?_
    refine J.ret ?_
    first | refine JE.unmark (.inl rfl) rfl (by (repeat (first | exact Pick.head | apply Pick.tail | apply Pick.app))) ?_ | refine JE.nomark (.inl rfl) rfl ?_
    refine JE.ret1 (.inl rfl) rfl rfl (by (first | exact RV.tmp rfl | exact RV.cell1 hT rfl rfl rfl (by (exact Rd1.row (by (repeat (first | exact Pick.head | apply Pick.tail | apply Pick.app))) (by rfl))) | exact RV.cellN hT rfl rfl rfl (by (first | exact RdN.rowAll (by (repeat (first | exact Pick.head | apply Pick.tail | apply Pick.app))) | exact RdN.own (by (repeat (first | exact Pick.head | apply Pick.tail | apply Pick.app))))) (by (first | rfl | assumption | (simp; done) | omega)))) ?_
    exact ⟨_, fun w h => h.sup (by (repeat (first | exact Sup.refl | apply Sup.cons (by (repeat (first | exact Pick.head | apply Pick.tail | apply Pick.app))) | apply Sup.app | apply Sup.skip | apply Sup.skips))), vs, qa, qc, hvp, rfl, rfl⟩
theorem collectU {fi : FuncId} {b N : Nat} {Q : List Int → Prop} {A : HProp} {l : List HProp} (eF : Ent prog fi) (hI : IterU E fi b N Q A l) (hN : N ≤ 1000000) :
    Fc prog E 63 [.func (.func fi) #[] [Value.pointer (some ⟨b, 0, none⟩)].toArray].toArray (A :: l)
      (fun v l' => ∃ (vs : List Int) (a : Option Addr) (c : Nat), Q vs ∧ v = .slice a vs.length c ∧ l' = own 35 1 v vs.length (vs.map (Value.int .u64)) :: A :: l) := by
  refine Fc.post ?_
  refine Fc.of_body (c := ?codeC) Tryd.func63 ?hb Tryd.ntmps63 ?hl ?_
  case hb => exact rfl
  case hl => exact rfl
  refine J.seq ?_
  refine J.region ?_
  refine JL.step (y_assign rfl) rfl rfl rfl ?_
  refine JL.nil ?_
  refine JE.then_normal ?_
  refine J.seq ?_
  refine J.region ?_
  refine JL.step (y_move rfl) rfl rfl rfl ?_
  refine JL.loud rfl (l_callF e75 rfl rfl (aseqU E eF hI hN) ?_)
  rintro _ _ ⟨vs, a, c, h1, rfl, rfl⟩
  refine JL.step (y_assign rfl) rfl rfl rfl ?_
  refine JL.nil ?_
  refine JE.then_normal ?_
  refine J.ret ?_
  refine JE.ret1 (.inl rfl) rfl rfl (by (first | exact RV.tmp rfl | exact RV.cell1 hT rfl rfl rfl (by (exact Rd1.row (by (repeat (first | exact Pick.head | apply Pick.tail | apply Pick.app))) (by rfl))) | exact RV.cellN hT rfl rfl rfl (by (first | exact RdN.rowAll (by (repeat (first | exact Pick.head | apply Pick.tail | apply Pick.app))) | exact RdN.own (by (repeat (first | exact Pick.head | apply Pick.tail | apply Pick.app))))) (by (first | rfl | assumption | (simp; done) | omega)))) ?_
  exact ⟨_, fun w h => h.sup (by (repeat (first | exact Sup.refl | apply Sup.cons (by (repeat (first | exact Pick.head | apply Pick.tail | apply Pick.app))) | apply Sup.app | apply Sup.skip | apply Sup.skips))), vs, a, c, h1, rfl, rfl⟩
/-- slices.Sorted. -/
theorem sortedU {fi : FuncId} {b N : Nat} {Q : List Int → Prop} {A : HProp} {l : List HProp} (eF : Ent prog fi) (hI : IterU E fi b N Q A l) (hN : N ≤ 1000000) (hQ : ∀ vs, Q vs → vs.length ≤ N) :
    Fc prog E 42 [.func (.func fi) #[] [Value.pointer (some ⟨b, 0, none⟩)].toArray].toArray (A :: l)
      (fun v l' => ∃ (us vs : List Int) (a : Option Addr) (c : Nat), Q us ∧ vs.Perm us ∧ (vs.Pairwise fun x y => Sort.ltInt y x = false) ∧ v = .slice a vs.length c ∧ l' = own 35 1 v vs.length (vs.map (Value.int .u64)) :: A :: l) := by
  refine Fc.post ?_
  refine Fc.of_body (c := ?codeC) Tryd.func42 ?hb Tryd.ntmps42 ?hl ?_
  case hb => exact rfl
  case hl => exact rfl
  refine J.seq ?_
  refine J.region ?_
  refine JL.step (y_assign rfl) rfl rfl rfl ?_
  refine JL.nil ?_
  refine JE.then_normal ?_
  refine J.seq ?_
  refine J.region ?_
  refine JL.step (y_move rfl) rfl rfl rfl ?_
  refine JL.loud rfl (l_callF e63 rfl rfl (collectU E eF hI hN) ?_)
  rintro _ _ ⟨us, a, c, h1, rfl, rfl⟩
  refine JL.step (y_assign rfl) rfl rfl rfl ?_
  refine JL.nil ?_
  refine JE.then_normal ?_
  refine J.seq ?_
  refine J.region ?_
  have hvl := hQ us h1
  refine JL.step (y_move rfl) rfl rfl rfl ?_
  refine JL.loud rfl (l_callF e64 rfl rfl (Fc.on (Split.cons (by (repeat (first | exact Pick.head | apply Pick.tail | apply Pick.app))) Split.nil) (sortU E Sort.swo_ltInt us.length _ us _ rfl (by omega))) ?_)
  rintro _ _ ⟨rfl, ys, h2, h3, rfl⟩
  refine JL.nil ?_
  refine JE.then_normal ?_
  refine J.seq ?_
  refine J.region ?_
  refine JL.step (y_move rfl) rfl rfl rfl (JL.step (y_assign rfl) rfl rfl rfl ?_)
  refine JL.nil ?_
  refine JE.then_normal ?_
  refine J.ret ?_
  refine JE.ret1 (.inl rfl) rfl rfl (by (first | exact RV.tmp rfl | exact RV.cell1 hT rfl rfl rfl (by (exact Rd1.row (by (repeat (first | exact Pick.head | apply Pick.tail | apply Pick.app))) (by rfl))) | exact RV.cellN hT rfl rfl rfl (by (first | exact RdN.rowAll (by (repeat (first | exact Pick.head | apply Pick.tail | apply Pick.app))) | exact RdN.own (by (repeat (first | exact Pick.head | apply Pick.tail | apply Pick.app))))) (by (first | rfl | assumption | (simp; done) | omega)))) ?_
  rw [← h2.length_eq]
  exact ⟨_, fun w h => h.sup (by (repeat (first | exact Sup.refl | apply Sup.cons (by (repeat (first | exact Pick.head | apply Pick.tail | apply Pick.app))) | apply Sup.app | apply Sup.skip | apply Sup.skips))), us, ys, a, c, h1, h2, h3, rfl, rfl⟩
/-- slices.Values. -/
theorem valuesU_spec (p : Option Addr) (n c : Nat) (l : List HProp) : Fc prog E 43 [.slice p n c].toArray l (fun u l' => ∃ b, u = .func (.func 65) #[] [Value.pointer (some ⟨b, 0, none⟩)].toArray ∧ l' = row b 32 [.slice p n c] :: l) := by
  refine Fc.of_body (c := ?codeC) Tryd.func43 ?hb Tryd.ntmps43 ?hl ?_
  case hb => exact rfl
  case hl => exact rfl
  refine J.seq ?_
  refine J.region ?_
  refine JL.loud rfl (l_box rfl (by (first | rfl | simp)) rfl (fun b1 => ?_))
  refine JL.step (y_assign rfl) rfl rfl rfl ?_
  refine JL.nil ?_
  refine JE.then_normal ?_
  refine J.seq ?_
  refine J.region ?_
  refine JL.step (y_makeFunc rfl rfl) rfl rfl rfl (JL.step (y_assign rfl) rfl rfl rfl ?_)
  refine JL.nil ?_
  refine JE.then_normal ?_
  refine J.ret ?_
  refine JE.ret1 (.inl rfl) rfl rfl (by (first | exact RV.tmp rfl | exact RV.cell1 hT rfl rfl rfl (by (exact Rd1.row (by (repeat (first | exact Pick.head | apply Pick.tail | apply Pick.app))) (by rfl))) | exact RV.cellN hT rfl rfl rfl (by (first | exact RdN.rowAll (by (repeat (first | exact Pick.head | apply Pick.tail | apply Pick.app))) | exact RdN.own (by (repeat (first | exact Pick.head | apply Pick.tail | apply Pick.app))))) (by (first | rfl | assumption | (simp; done) | omega)))) ?_
  exact ⟨b1, rfl, rfl⟩
theorem valuesU_each (p : Option Addr) (n c b : Nat) (xs : List Int) (l : List HProp) (hn : xs.length = n) (hn8 : n ≤ 1000000) (hin : InL l p n c (ints .u64 xs)) :
    IterU E 65 b n (fun vs => vs = xs) (row b 32 [.slice p n c]) l := by
  intro k St hy
  refine Fc.post ?_
  refine Fc.of_body (c := ?codeC) Tryd.func65 ?hb Tryd.ntmps65 ?hl ?_
  case hb => exact rfl
  case hl => exact rfl
  refine J.seq ?_
  refine J.region ?_
  refine JL.step (y_load1 hT rfl rfl rfl (by (exact Rd1.row (by (repeat (first | exact Pick.head | apply Pick.tail | apply Pick.app))) (by rfl)))) rfl rfl rfl ?_
  refine JL.step (y_len_slice hT rfl rfl rfl) rfl rfl rfl (JL.step (y_move rfl) rfl rfl rfl ?_)
  refine JL.nil ?_
  refine JE.then_normal ?_
  refine J.block ?_
  refine J.loop (α := Nat) (fun i => i ≤ n) (fun i => [(0, .func (.yield k) #[] #[]), (1, .pointer (some ⟨b, 0, none⟩)), (5, .slice p n c), (6, .int .i64 n), (7, .int .i64 i)]) (fun i => row b 32 [.slice p n c] :: (St (xs.take i) ++ l)) (fun i => n - i) 0 (Nat.zero_le _) ⟨rfl, rfl, rfl, rfl, rfl, trivial⟩ (fun w h => h) ?_
  intro i hi
  try dsimp only
  refine J.seq ?_
  refine J.region ?_
  refine JL.step (y_lss rfl rfl) rfl rfl rfl ?_
  refine JL.nil ?_
  refine JE.then_normal ?_
  refine J.seq ?_
  first | apply J.cond_dec rfl | apply J.cond rfl
  case' ht =>
    intro h
    try (first | (exfalso; omega) | (cases h; done) | (exfalso; simp at h; done) | subst h)
    all_goals
      refine J.skip ?_
  case' hf =>
    intro h
    try (first | (exfalso; omega) | (cases h; done) | (exfalso; simp at h; done) | subst h)
    all_goals
      refine J.exit ?_
      refine JE.then_exit ?_
      refine JE.then_exit ?_
      refine JE.block_exit ?_
      refine JE.ret0 (.inr rfl) rfl rfl  ?_
      obtain rfl : i = n := by omega
      exact ⟨_, fun w h => h, _, rfl, by rw [List.take_of_length_le (by omega)]⟩
  all_goals refine JE.then_normal ?_
  all_goals
    refine J.seq ?_
    refine J.block ?_
    refine J.seq ?_
    refine J.region ?_
    have hlt : i < n := by omega
    obtain ⟨x, hh⟩ : ∃ x, xs[i]? = some x := ⟨xs[i]'(by omega), List.getElem?_eq_getElem _⟩
    have hst : xs.take (i + 1) = xs.take i ++ [x] := by rw [List.take_add_one, hh]; rfl
    obtain ⟨g, o, rfl, hr⟩ := hin.addr (by omega)
    refine JL.step (y_indexAddr_slice hT rfl rfl rfl rfl rfl (by (first | omega | exact Nat.le_of_ble_eq_true rfl | decide | (simp; omega))) (by (first | omega | exact Nat.le_of_ble_eq_true rfl | decide | (simp; omega)))) rfl rfl rfl ?_
    refine JL.step (y_load1 hT rfl rfl rfl (Rd1.elem (((hr []).app (St (xs.take i))).cons _) (by rw [Int.toNat_natCast]; unfold ints; rw [List.getElem?_map, hh]; rfl))) rfl rfl rfl ?_
    refine JL.step (y_assign rfl) rfl rfl rfl ?_
    refine JL.nil ?_
    refine JE.then_normal ?_
    refine J.seq ?_
    refine J.region ?_
    refine JL.step (y_move rfl) rfl rfl rfl (JL.step (y_move rfl) rfl rfl rfl ?_)
    refine JL.yield rfl rfl rfl (Yc.imp (hy _ (xs.take i) x (by rw [List.length_take]; omega)) (fun w h => Sat.rot (p := [_]) (g := St (xs.take i)) h)) ?_
    rintro _ _ ⟨rfl, rfl⟩
    all_goals (refine JL.step (y_not rfl) rfl rfl rfl ?_)
    all_goals refine JL.nil ?_
    all_goals refine JE.then_normal ?_
    all_goals
      refine J.cond_f rfl (by (first | rfl | assumption | (simp; done) | (simp; omega))) ?_
      refine J.skip ?_
    all_goals refine JE.block_normal ?_
    all_goals refine JE.then_normal ?_
    all_goals
      refine J.region ?_
      refine JL.step (y_add rfl rfl (by (first | exact wrap_i64 (by omega) (by omega) | rfl))) rfl rfl rfl ?_
      refine JL.step (y_move rfl) rfl rfl rfl ?_
      refine JL.nil ?_
  all_goals
    exact JE.round (s := i) (i + 1) (by omega) ⟨rfl, rfl, rfl, rfl, rfl, trivial⟩ (fun w h => by
      rw [hst]
      exact Sat.rot (p := St (xs.take i ++ [x])) (g := [row b 32 [.slice (some ⟨g, o, none⟩) n c]]) h) (by omega)
end
section
attribute [local irreducible] J JL JE JM LS Y Fc RV Code.wp wpList Code.wpIn wpListIn
attribute [local irreducible] Yc
variable (E : World)
theorem oneU : OneCell (Value.int .u64) := fun _ => rfl
theorem compact_nil (r : List HProp) : Fc prog E 41 [.slice none 0 0].toArray r (fun v l' => v = .slice none 0 0 ∧ l' = r) := by
  refine Fc.of_body (c := ?codeC) Tryd.func41 ?hb Tryd.ntmps41 ?hl ?_
  case hb => exact rfl
  case hl => exact rfl
  refine J.seq ?_
  refine J.region ?_
  refine JL.step (y_assign rfl) rfl rfl rfl ?_
  refine JL.nil ?_
  refine JE.then_normal ?_
  refine J.seq ?_
  refine J.seq ?_
  refine J.region ?_
  refine JL.step (y_move rfl) rfl rfl rfl (JL.step (y_len_slice hT rfl rfl rfl) rfl rfl rfl (JL.step (y_lss rfl rfl) rfl rfl rfl ?_))
  refine JL.nil ?_
  refine JE.then_normal ?_
  refine J.cond_t rfl (by (first | rfl | assumption | (simp; done) | (simp; omega))) ?_
  refine J.seq ?_
  refine J.region ?_
  refine JL.step (y_move rfl) rfl rfl rfl (JL.step (y_assign rfl) rfl rfl rfl ?_)
  refine JL.nil ?_
  refine JE.then_normal ?_
  refine J.ret ?_
  refine JE.then_ret ?_
  refine JE.ret1 (.inl rfl) rfl rfl (by (first | exact RV.tmp rfl | exact RV.cell1 hT rfl rfl rfl (by (exact Rd1.row (by (repeat (first | exact Pick.head | apply Pick.tail | apply Pick.app))) (by rfl))) | exact RV.cellN hT rfl rfl rfl (by (first | exact RdN.rowAll (by (repeat (first | exact Pick.head | apply Pick.tail | apply Pick.app))) | exact RdN.own (by (repeat (first | exact Pick.head | apply Pick.tail | apply Pick.app))))) (by (first | rfl | assumption | (simp; done) | omega)))) ?_
  exact ⟨rfl, rfl⟩
theorem compactU (n : Nat) (v : Value) (xs : List Int) (r : List HProp) (hn : xs.length = n) (h63 : n ≤ 1000000) :
    Fc prog E 41 [v].toArray (own 35 1 v n (xs.map (Value.int .u64)) :: r) (fun u l' => ∃ a c, u = .slice a (Lib.compact xs).length c ∧ l' = own 35 1 u (Lib.compact xs).length ((Lib.compact xs).map (Value.int .u64)) :: r) := by
  refine Fc.owns (fun e1 e2 e3 => ?_) (fun g cap sp e1 h1 h2 h3 h4 => ?_)
  · subst e1 e2
    obtain rfl : xs = [] := List.eq_nil_of_length_eq_zero hn
    exact Fc.post ((compact_nil E r).mono fun u l' ⟨a, b⟩ => ⟨own 35 1 (.slice none 0 0) 0 [] :: r, fun w h => Sat.own_nil (b ▸ h), none, 0, a, by rw [a]; rfl⟩)
  · subst e1
    refine Fc.ofCalls fun w hs => ?_
    have hc := AnyE.slices_Compact laysCompact (Value.int .u64) oneU (EqlAt.intD _ _ _) (NeqAt.intD _ _ _) 0 (fun w => Go.Proofs.Tryd.zeroValue35 w) g 0 cap xs.toArray w (holds_row hs) (by simp; omega) (by simp; omega)
    have hsz : xs.toArray.size = n := by simpa using hn
    have e1 : Lib.compactUpTo xs.toArray n = Lib.compact xs := by unfold Lib.compact; rw [hn]
    rw [hsz, e1] at hc
    refine hc.mono ?_
    rintro e w' ⟨rfl, q, rfl⟩
    have hcl : (Lib.compact xs).length ≤ n := by
      unfold Lib.compact Lib.compactUpTo
      rw [List.length_map]
      have := List.length_filter_le (Lib.keeps xs.toArray) (List.range xs.length)
      rw [List.length_range] at this
      omega
    have hsz2 : ((Lib.compact xs) ++ List.replicate (n - (Lib.compact xs).length) 0).toArray.size = n := by simp; omega
    have hp := sat_put hs (enc := Value.int .u64) (dk := ((Lib.compact xs) ++ List.replicate (n - (Lib.compact xs).length) 0).toArray) (k := q) hsz2 (by simp; omega)
    refine ⟨_, own 35 1 (.slice (some ⟨g, 0, none⟩) (Lib.compact xs).length cap) (Lib.compact xs).length ((Lib.compact xs).map (Value.int .u64)) :: r, rfl, ?_, some ⟨g, 0, none⟩, cap, rfl, rfl⟩
    rw [List.map_append, List.append_assoc] at hp
    refine Sat.owned hp (by omega) h2 (by rw [List.length_map, Nat.mul_one]) ?_
    rw [List.length_append, List.length_map] at h4
    simp only [List.length_append, List.length_map, List.length_replicate, List.length_drop]
    omega
end
end
section
open Go Go.SL
section
/-- One number more: the runs, the length of what is under way, the number before. -/
def runStep (n : Int) (s : Int × Int × Option Int) (x : Int) : Int × Int × Option Int :=
  let k := (if s.2.2.map (fun p => IntKind.u64.wrap (p + 1)) = some x then s.2.1 else 0) + 1
  if k = n then (s.1 + 1, 0, some x) else (s.1, k, some x)
def runsF (n : Int) (xs : List Int) : Int × Int × Option Int := xs.foldl (runStep n) (0, 0, none)
theorem runs_take {n : Int} {xs : List Int} {i : Nat} {x : Int} (h : xs[i]? = some x) : runsF n (xs.take (i + 1)) = runStep n (runsF n (xs.take i)) x := by
  unfold runsF
  rw [List.take_add_one, h, Option.toList_some, List.foldl_append]; rfl
theorem runs_last (n : Int) : ∀ (xs : List Int) (i : Nat), (runsF n (xs.take (i + 1))).2.2 = if i < xs.length then xs[i]? else (runsF n xs).2.2
  | xs, i => by
    by_cases h : i < xs.length
    · rw [if_pos h, runs_take (List.getElem?_eq_getElem h), List.getElem?_eq_getElem h]
      unfold runStep
      dsimp only
      split <;> split <;> rfl
    · rw [if_neg h, List.take_of_length_le (by omega)]
theorem runs_bounds {n : Int} (hn : 1 ≤ n) (xs : List Int) : 0 ≤ (runsF n xs).1 ∧ (runsF n xs).1 ≤ xs.length ∧ 0 ≤ (runsF n xs).2.1 ∧ (runsF n xs).2.1 ≤ xs.length := by
  have h : ∀ (xs : List Int) (s : Int × Int × Option Int), 0 ≤ s.1 → 0 ≤ s.2.1 → 0 ≤ (xs.foldl (runStep n) s).1 ∧ (xs.foldl (runStep n) s).1 ≤ s.1 + xs.length ∧ 0 ≤ (xs.foldl (runStep n) s).2.1 ∧ (xs.foldl (runStep n) s).2.1 ≤ s.2.1 + xs.length := by
    intro xs
    induction xs with
    | nil => intro s h1 h2; simp; omega
    | cons x r ih =>
      intro s h1 h2
      rw [List.foldl_cons, List.length_cons]
      have a : 0 ≤ (runStep n s x).1 ∧ (runStep n s x).1 ≤ s.1 + 1 ∧ 0 ≤ (runStep n s x).2.1 ∧ (runStep n s x).2.1 ≤ s.2.1 + 1 := by
        unfold runStep
        dsimp only
        split <;> split <;> dsimp only <;> omega
      have := ih (runStep n s x) a.1 a.2.2.1
      omega
  have := h xs (0, 0, none) (by simp) (by simp)
  unfold runsF
  simpa using this
end
section
attribute [local irreducible] J JL JE JM LS Y Fc RV Code.wp wpList Code.wpIn wpListIn
attribute [local irreducible] Yc Sort.ltInt
variable (E : World)
/-- What Runs answers. -/
theorem runs_spec (p : Option Addr) (m c : Nat) (xs : List Int) (n : Int) (l : List HProp) (hm : xs.length = m) (hm8 : m ≤ 1000) (hin : InL l p m c (ints .u64 xs)) :
    Fc prog E 18 [.slice p m c, .int .i64 n].toArray l (fun v l' => ∃ z, v = .int .i64 z ∧ (n < 1 → z = 0) ∧ (¬ n < 1 → ∃ ys : List Int, ys.Perm xs ∧ (ys.Pairwise fun x y => Sort.ltInt y x = false) ∧ z = (runsF n (Lib.compact ys)).1) ∧ l' = l) := by
  refine Fc.post ?_
  refine Fc.of_body (c := ?codeC) Tryd.func18 ?hb Tryd.ntmps18 ?hl ?_
  case hb => exact rfl
  case hl => exact rfl
  refine J.seq ?_
  refine J.region ?_
  refine JL.step (y_assign rfl) rfl rfl rfl ?_
  refine JL.nil ?_
  refine JE.then_normal ?_
  refine J.seq ?_
  refine J.seq ?_
  refine J.region ?_
  refine JL.step (y_move rfl) rfl rfl rfl (JL.step (y_lss rfl rfl) rfl rfl rfl ?_)
  refine JL.nil ?_
  refine JE.then_normal ?_
  first | apply J.cond_dec rfl | apply J.cond rfl
  case' ht =>
    intro h
    try (first | (exfalso; omega) | (cases h; done) | (exfalso; simp at h; done) | subst h)
    all_goals
      refine J.seq ?_
      refine J.region ?_
      refine JL.step (y_assign rfl) rfl rfl rfl ?_
      refine JL.nil ?_
      refine JE.then_normal ?_
      refine J.ret ?_
      refine JE.then_ret ?_
      refine JE.ret1 (.inl rfl) rfl rfl (by (first | exact RV.tmp rfl | exact RV.cell1 hT rfl rfl rfl (by (exact Rd1.row (by (repeat (first | exact Pick.head | apply Pick.tail | apply Pick.app))) (by rfl))) | exact RV.cellN hT rfl rfl rfl (by (first | exact RdN.rowAll (by (repeat (first | exact Pick.head | apply Pick.tail | apply Pick.app))) | exact RdN.own (by (repeat (first | exact Pick.head | apply Pick.tail | apply Pick.app))))) (by (first | rfl | assumption | (simp; done) | omega)))) ?_
      first
      | exact ⟨_, fun w h => h, 0, rfl, fun _ => rfl, fun h => absurd (by omega) h, rfl⟩
      | refine ⟨_, fun w h => h.sup (by (repeat (first | exact Sup.refl | apply Sup.cons (by (repeat (first | exact Pick.head | apply Pick.tail | apply Pick.app))) | apply Sup.app | apply Sup.skip | apply Sup.skips))), _, rfl, fun h => absurd h (by omega), fun _ => ⟨ys, h2, h3, ?_⟩, rfl⟩
        rw [hzs, List.take_of_length_le (by omega)]
  case' hf =>
    intro h
    try (first | (exfalso; omega) | (cases h; done) | (exfalso; simp at h; done) | subst h)
    all_goals
      refine J.skip ?_
  all_goals refine JE.then_normal ?_
  all_goals
    refine J.seq ?_
    refine J.region ?_
    refine JL.step (y_move rfl) rfl rfl rfl ?_
    refine JL.loud rfl (l_callF e43 rfl rfl (valuesU_spec E p m c _) ?_)
    rintro _ _ ⟨b1, rfl, rfl⟩
    refine JL.loud rfl (l_callF e42 rfl rfl (sortedU E e65 (valuesU_each E p m c b1 xs l hm (by omega) hin) (by omega) (fun vs h => by rw [h, hm]; exact Nat.le_refl _)) ?_)
    rintro _ _ ⟨us, ys, a, c1, rfl, h2, h3, rfl, rfl⟩
    refine JL.loud rfl (l_callF e41 rfl rfl (Fc.on (Split.cons (by (repeat (first | exact Pick.head | apply Pick.tail | apply Pick.app))) Split.nil) (compactU E ys.length _ ys _ rfl (by have := h2.length_eq; omega))) ?_)
    rintro _ _ ⟨a2, c2, rfl, rfl⟩
    refine JL.step (y_assign rfl) rfl rfl rfl ?_
    refine JL.nil ?_
    refine JE.then_normal ?_
    refine J.seq ?_
    refine J.region ?_
    refine JL.step (y_assign rfl) rfl rfl rfl (JL.step (y_assign rfl) rfl rfl rfl ?_)
    refine JL.nil ?_
    refine JE.then_normal ?_
    refine J.seq ?_
    refine J.seq ?_
    refine J.region ?_
    refine JL.step (y_move rfl) rfl rfl rfl (JL.step (y_len_slice hT rfl rfl rfl) rfl rfl rfl (JL.step (y_move rfl) rfl rfl rfl ?_))
    refine JL.nil ?_
    refine JE.then_normal ?_
    refine J.block ?_
    have hcl : (Lib.compact ys).length ≤ 1000 := by
      have h1 := h2.length_eq
      unfold Lib.compact Lib.compactUpTo
      rw [List.length_map]
      have := List.length_filter_le (Lib.keeps ys.toArray) (List.range ys.length)
      rw [List.length_range] at this
      omega
    obtain ⟨zs, hzs⟩ : ∃ zs, Lib.compact ys = zs := ⟨_, rfl⟩
    rw [hzs] at hcl ⊢
    refine J.loop (α := Nat) (fun i => i ≤ zs.length) (fun i => [(1, .int .i64 n), (5, .slice a2 zs.length c2), (6, .int .i64 (runsF n (zs.take i)).1), (7, .int .i64 (runsF n (zs.take i)).2.1), (16, .slice a2 zs.length c2), (17, .int .i64 zs.length), (18, .int .i64 i)]) (fun i => own 35 1 (.slice a2 zs.length c2) zs.length (zs.map (Value.int .u64)) :: row b1 32 [.slice p m c] :: l) (fun i => zs.length - i) 0 (Nat.zero_le _) ⟨rfl, rfl, rfl, rfl, rfl, rfl, rfl, trivial⟩ (fun w h => h) ?_
    intro i hi
    try dsimp only
    have hb := runs_bounds (n := n) (by omega) (zs.take i)
    rw [List.length_take] at hb
    refine J.fact (fun w s => Sat.own_at (s.pick Pick.head)) fun oz => ?_
    refine J.seq ?_
    refine J.region ?_
    refine JL.step (y_lss rfl rfl) rfl rfl rfl ?_
    refine JL.nil ?_
    refine JE.then_normal ?_
    refine J.seq ?_
    first | apply J.cond_dec rfl | apply J.cond rfl
    case' ht =>
      intro h
      try (first | (exfalso; omega) | (cases h; done) | (exfalso; simp at h; done) | subst h)
      all_goals
        refine J.skip ?_
    case' hf =>
      intro h
      try (first | (exfalso; omega) | (cases h; done) | (exfalso; simp at h; done) | subst h)
      all_goals
        refine J.exit ?_
        refine JE.then_exit ?_
        refine JE.then_exit ?_
        refine JE.block_exit ?_
        refine JE.then_normal ?_
        refine J.seq ?_
        refine J.region ?_
        refine JL.step (y_move rfl) rfl rfl rfl (JL.step (y_assign rfl) rfl rfl rfl ?_)
        refine JL.nil ?_
        refine JE.then_normal ?_
        refine J.ret ?_
        refine JE.ret1 (.inl rfl) rfl rfl (by (first | exact RV.tmp rfl | exact RV.cell1 hT rfl rfl rfl (by (exact Rd1.row (by (repeat (first | exact Pick.head | apply Pick.tail | apply Pick.app))) (by rfl))) | exact RV.cellN hT rfl rfl rfl (by (first | exact RdN.rowAll (by (repeat (first | exact Pick.head | apply Pick.tail | apply Pick.app))) | exact RdN.own (by (repeat (first | exact Pick.head | apply Pick.tail | apply Pick.app))))) (by (first | rfl | assumption | (simp; done) | omega)))) ?_
        first
        | exact ⟨_, fun w h => h, 0, rfl, fun _ => rfl, fun h => absurd (by omega) h, rfl⟩
        | refine ⟨_, fun w h => h.sup (by (repeat (first | exact Sup.refl | apply Sup.cons (by (repeat (first | exact Pick.head | apply Pick.tail | apply Pick.app))) | apply Sup.app | apply Sup.skip | apply Sup.skips))), _, rfl, fun h => absurd h (by omega), fun _ => ⟨ys, h2, h3, ?_⟩, rfl⟩
          rw [hzs, List.take_of_length_le (by omega)]
    all_goals refine JE.then_normal ?_
    all_goals
      refine J.seq ?_
      refine J.block ?_
      refine J.seq ?_
      refine J.region ?_
      have hlt : i < zs.length := by omega
      obtain ⟨x, hh⟩ : ∃ x, zs[i]? = some x := ⟨zs[i], List.getElem?_eq_getElem _⟩
      have hst := runs_take (n := n) hh
      have hpv : 0 < i → ∃ y, zs[i - 1]? = some y ∧ (runsF n (zs.take i)).2.2 = some y := fun h0 => by
        have h1 := runs_last n zs (i - 1)
        rw [if_pos (by omega), show i - 1 + 1 = i by omega] at h1
        exact ⟨zs[i - 1], List.getElem?_eq_getElem _, by rw [h1]; exact List.getElem?_eq_getElem _⟩
      obtain ⟨g, o, rfl, hr⟩ := (oz.inl (l := own 35 1 (.slice a2 zs.length c2) zs.length (zs.map (Value.int .u64)) :: row b1 32 [.slice p m c] :: l) (by (repeat (first | exact Pick.head | apply Pick.tail | apply Pick.app)))).addr (by omega)
      refine JL.step (y_move rfl) rfl rfl rfl ?_
      refine JL.step (y_indexAddr_slice hT rfl rfl rfl rfl rfl (by (first | omega | exact Nat.le_of_ble_eq_true rfl | decide | (simp; omega))) (by (first | omega | exact Nat.le_of_ble_eq_true rfl | decide | (simp; omega)))) rfl rfl rfl ?_
      refine JL.step (y_load1 hT rfl rfl rfl (Rd1.elem (hr []) (by rw [Int.toNat_natCast, List.getElem?_map, hh]; rfl))) rfl rfl rfl ?_
      refine JL.step (y_assign rfl) rfl rfl rfl (JL.step (y_assign rfl) rfl rfl rfl ?_)
      refine JL.nil ?_
      refine JE.then_normal ?_
      refine J.seqK (α := Int) (fun q => q = (if (runsF n (zs.take i)).2.2.map (fun p => IntKind.u64.wrap (p + 1)) = some x then (runsF n (zs.take i)).2.1 else 0)) (fun q => [(1, .int .i64 n), (5, .slice (some ⟨g, o, none⟩) zs.length c2), (6, .int .i64 (runsF n (zs.take i)).1), (7, .int .i64 q), (16, .slice (some ⟨g, o, none⟩) zs.length c2), (17, .int .i64 zs.length), (18, .int .i64 i)]) (fun q => own 35 1 (.slice (some ⟨g, o, none⟩) zs.length c2) zs.length (zs.map (Value.int .u64)) :: row b1 32 [.slice p m c] :: l) ?hj10 (fun hk10 => ?hf10)
      case hf10 =>
        refine J.seq ?_
        refine J.region ?_
        refine JL.step (y_move rfl) rfl rfl rfl (JL.step (y_eql rfl rfl) rfl rfl rfl (JL.step (y_move rfl) rfl rfl rfl ?_))
        all_goals (first | (refine JL.gsplit_dec rfl rfl rfl (fun h => ?_) (fun h => ?_) <;> try (first | (exfalso; omega) | exact absurd rfl h)) | (refine JL.gsplit rfl rfl rfl (fun h => ?_) (fun h => ?_) <;> try (first | cases h | (exfalso; simp at h; done))) | skip)
        all_goals (first | refine JL.gskip rfl rfl rfl rfl rfl rfl ?_ | refine JL.gskipU rfl rfl rfl rfl rfl ?_ | refine JL.gstep rfl rfl rfl (y_move rfl) rfl rfl ?_)
        all_goals (first | refine JL.gskip rfl rfl rfl rfl rfl rfl ?_ | refine JL.gskipU rfl rfl rfl rfl rfl ?_ | refine JL.gstep rfl rfl rfl (y_move rfl) rfl rfl ?_)
        all_goals (first | refine JL.gskip rfl rfl rfl rfl rfl rfl ?_ | refine JL.gskipU rfl rfl rfl rfl rfl ?_ | refine JL.gstep rfl rfl rfl (y_sub rfl rfl (by (first | exact wrap_i64 (by omega) (by omega) | rfl))) rfl rfl ?_)
        all_goals (first | refine JL.gskip rfl rfl rfl rfl rfl rfl ?_ | refine JL.gskipU rfl rfl rfl rfl rfl ?_ | refine JL.gstep rfl rfl rfl (y_indexAddr_slice hT rfl rfl rfl rfl rfl (by (first | omega | exact Nat.le_of_ble_eq_true rfl | decide | (simp; omega))) (by (first | omega | exact Nat.le_of_ble_eq_true rfl | decide | (simp; omega)))) rfl rfl ?_)
        all_goals (first | refine JL.gskip rfl rfl rfl rfl rfl rfl ?_ | refine JL.gskipU rfl rfl rfl rfl rfl ?_ | (obtain ⟨y, hy, hl⟩ := hpv (by omega); refine JL.gstep rfl rfl rfl (y_load1 hT rfl rfl rfl (Rd1.elem (hr []) (by rw [show ((i : Int) - 1).toNat = i - 1 by omega, List.getElem?_map, hy]; rfl))) rfl rfl ?_))
        all_goals (first | refine JL.gskip rfl rfl rfl rfl rfl rfl ?_ | refine JL.gskipU rfl rfl rfl rfl rfl ?_ | (refine JL.gstep rfl rfl rfl (y_add (m := IntKind.u64.wrap (y + 1)) rfl rfl rfl) rfl rfl ?_))
        all_goals (first | refine JL.gskip rfl rfl rfl rfl rfl rfl ?_ | refine JL.gskipU rfl rfl rfl rfl rfl ?_ | refine JL.gstep rfl rfl rfl (y_move rfl) rfl rfl ?_)
        all_goals (first | refine JL.gskip rfl rfl rfl rfl rfl rfl ?_ | refine JL.gskipU rfl rfl rfl rfl rfl ?_ | refine JL.gstep rfl rfl rfl (y_neq rfl rfl) rfl rfl ?_)
        all_goals (refine JL.step (y_pick rfl rfl rfl) rfl rfl rfl ?_)
        all_goals refine JL.nil ?_
        all_goals refine JE.then_normal ?_
        all_goals
          first | apply J.cond_dec rfl | apply J.cond rfl
          case' ht =>
            intro h
            try (first | (exfalso; omega) | (cases h; done) | (exfalso; simp at h; done) | subst h)
            all_goals
              refine J.region ?_
              refine JL.step (y_assign rfl) rfl rfl rfl ?_
              refine JL.nil ?_
          case' hf =>
            intro h
            try (first | (exfalso; omega) | (cases h; done) | (exfalso; simp at h; done) | subst h)
            all_goals
              refine J.skip ?_
        all_goals refine JE.then_normal ?_
        all_goals
          first
          | exact J.closeK hk10 0 (by obtain rfl : i = 0 := by omega
                                      simp [runsF]) ⟨rfl, rfl, rfl, rfl, rfl, rfl, rfl, trivial⟩ (fun w h => h)
          | exact J.closeK hk10 0 (by rw [hl, Option.map_some, if_neg (by simpa using h)]) ⟨rfl, rfl, rfl, rfl, rfl, rfl, rfl, trivial⟩ (fun w h => h)
          | exact J.closeK hk10 (runsF n (zs.take i)).2.1 (by rw [hl, Option.map_some, if_pos (by simpa using h)]) ⟨rfl, rfl, rfl, rfl, rfl, rfl, rfl, trivial⟩ (fun w h => h)
      intro q hq
      have hqb : 0 ≤ q ∧ q ≤ i := by rw [hq]; split <;> omega
      have hst2 : runsF n (zs.take (i + 1)) = if q + 1 = n then ((runsF n (zs.take i)).1 + 1, 0, some x) else ((runsF n (zs.take i)).1, q + 1, some x) := by rw [hst, hq]; rfl
      try dsimp only
      refine J.seq ?_
      refine J.region ?_
      refine JL.step (y_move rfl) rfl rfl rfl ?_
      refine JL.step (y_add rfl rfl (by (first | exact wrap_i64 (by omega) (by omega) | rfl))) rfl rfl rfl ?_
      refine JL.step (y_assign rfl) rfl rfl rfl ?_
      refine JL.nil ?_
      refine JE.then_normal ?_
      refine J.seq ?_
      refine J.region ?_
      refine JL.step (y_move rfl) rfl rfl rfl (JL.step (y_move rfl) rfl rfl rfl (JL.step (y_eql rfl rfl) rfl rfl rfl ?_))
      refine JL.nil ?_
      refine JE.then_normal ?_
      first | apply J.cond_dec rfl | apply J.cond rfl
      case' ht =>
        intro h
        try (first | (exfalso; omega) | (cases h; done) | (exfalso; simp at h; done) | subst h)
        all_goals
          rw [if_pos (by omega)] at hst2
          refine J.seq ?_
          refine J.region ?_
          refine JL.step (y_move rfl) rfl rfl rfl ?_
          refine JL.step (y_add rfl rfl (by (first | exact wrap_i64 (by omega) (by omega) | rfl))) rfl rfl rfl ?_
          refine JL.step (y_assign rfl) rfl rfl rfl ?_
          refine JL.nil ?_
          refine JE.then_normal ?_
          refine J.region ?_
          refine JL.step (y_assign rfl) rfl rfl rfl ?_
          refine JL.nil ?_
      case' hf =>
        intro h
        try (first | (exfalso; omega) | (cases h; done) | (exfalso; simp at h; done) | subst h)
        all_goals
          rw [if_neg (by omega)] at hst2
          refine J.skip ?_
      all_goals refine JE.block_normal ?_
      all_goals refine JE.then_normal ?_
      all_goals
        refine J.region ?_
        refine JL.step (y_add rfl rfl (by (first | exact wrap_i64 (by omega) (by omega) | rfl))) rfl rfl rfl ?_
        refine JL.step (y_move rfl) rfl rfl rfl ?_
        refine JL.nil ?_
    all_goals
      exact JE.round (s := i) (i + 1) (by omega) ⟨rfl, rfl, by rw [hst2]; rfl, by rw [hst2]; rfl, rfl, rfl, rfl, trivial⟩ (fun w h => h) (by omega)
end
end
section
open Go Go.SL
section
/-- A seal of a client's. -/
structure SealT where
  client : Int
  opened : Bool
  peer : List Int
  round : Int
  body : List Int
def seE (s : SealT) : List Value := .int .i64 s.client :: .bool s.opened :: (ints .u8 s.peer ++ .int .u64 s.round :: ints .u8 s.body)
structure SeOk (s : SealT) : Prop where
  peer : s.peer.length = 32
  body : s.body.length = 130
theorem seE_length {s : SealT} (h : SeOk s) : (seE s).length = 165 := by
  simp [seE, ints, h.peer, h.body]
theorem seE_one (s : SealT) : ∀ v ∈ seE s, v.oneCell' = true := by
  intro v hv
  simp only [seE, ints, List.mem_cons, List.mem_append, List.mem_map] at hv
  rcases hv with rfl | rfl | ⟨_, _, rfl⟩ | rfl | ⟨_, _, rfl⟩ <;> rfl
theorem seE_peer {s : SealT} (h : SeOk s) : ((seE s).drop 2).take 32 = ints .u8 s.peer := by
  simp only [seE, List.drop_succ_cons, List.drop_zero]
  rw [List.take_left' (by simp [ints, h.peer])]
theorem seE_round {s : SealT} (h : SeOk s) : (seE s)[34]? = some (.int .u64 s.round) := by
  simp only [seE, List.getElem?_cons_succ]
  rw [List.getElem?_append_right (by simp [ints, h.peer])]
  simp [ints, h.peer]
theorem seE_body {s : SealT} (h : SeOk s) : ((seE s).drop 35).take 130 = ints .u8 s.body := by
  have e : (ints .u8 s.peer).length = 32 := by simp [ints, h.peer]
  have e2 : (ints .u8 s.body).length = 130 := by simp [ints, h.body]
  simp only [seE, List.drop_succ_cons]
  rw [List.drop_append, List.drop_of_length_le (by omega), e]
  simp only [List.nil_append, Nat.reduceSub, List.drop_succ_cons, List.drop_zero]
  exact List.take_of_length_le (by omega)
theorem ints_one {k : IntKind} : ∀ {x y : List Int}, ints k x = ints k y → x = y
  | [], [], _ => rfl
  | [], b :: y, h => by simp [ints] at h
  | a :: x, [], h => by simp [ints] at h
  | a :: x, b :: y, h => by
    simp only [ints, List.map_cons, List.cons.injEq, Value.int.injEq, true_and] at h
    rw [h.1, ints_one (k := k) (x := x) (y := y) h.2]
/-- What goes from one to another in a round. -/
abbrev LetT := List Int × List Int × Int × List Int
def leE (k : LetT) : List Value := ints .u8 k.1 ++ (ints .u8 k.2.1 ++ .int .u64 k.2.2.1 :: ints .u8 k.2.2.2)
def LeOk (k : LetT) : Prop := k.1.length = 32 ∧ k.2.1.length = 32 ∧ k.2.2.2.length = 130
def letK (k : LetT) : Value := .agg (leE k).toArray
theorem keyLet : KeyOk prog 115 letK LeOk :=
  keyFlat hT (n := 3) (ks := List.replicate 32 (.int .u8) ++ (List.replicate 32 (.int .u8) ++ .int .u64 :: List.replicate 130 (.int .u8))) (by kernel_rfl) rfl (by kernel_rfl) rfl rfl (fun a h => by
    have h1 := Fits.ints .u8 a.1
    have h2 := Fits.ints .u8 a.2.1
    have h3 := Fits.ints .u8 a.2.2.2
    rw [h.1] at h1
    rw [h.2.1] at h2
    rw [h.2.2] at h3
    exact h1.app (h2.app ⟨⟨_, rfl⟩, h3⟩)) (fun a b ha hb h => by
    obtain ⟨a1, a2, a3, a4⟩ := a
    obtain ⟨b1, b2, b3, b4⟩ := b
    have hinj : ∀ x y : List Int, ints .u8 x = ints .u8 y → x = y := fun x y q => ints_one q
    simp only [leE] at h
    obtain ⟨p1, p2⟩ := List.append_inj h (by simp [ints, ha.1, hb.1])
    obtain ⟨p3, p4⟩ := List.append_inj p2 (by simp [ints, ha.2.1, hb.2.1])
    simp only [List.cons.injEq, Value.int.injEq, true_and] at p4
    rw [hinj _ _ p1, hinj _ _ p3, p4.1, hinj _ _ p4.2])
/-- The letters that were sealed. -/
def leM (L : List LetT) : List (LetT × Value) := L.map fun k => (k, .bool true)
theorem leM_look (L : List LetT) (k : LetT) : lookV false (mlook (leM L) k) (.bool false) = .bool (decide (k ∈ L)) := by
  induction L with
  | nil => simp [leM, mlook, lookV]
  | cons t L ih =>
    unfold leM at ih ⊢
    rw [List.map_cons, mlook]
    by_cases h : k = t
    · rw [if_pos h]; simp [lookV, h]
    · rw [if_neg h, ih]; simp [h]
def leAdd (L : List LetT) (k : LetT) : List LetT := if k ∈ L then L else L ++ [k]
theorem leM_put (L : List LetT) (k : LetT) : mput (leM L) k (.bool true) = leM (leAdd L k) := by
  induction L with
  | nil => simp [leM, mput, leAdd]
  | cons t L ih =>
    unfold leM at ih ⊢
    rw [List.map_cons, mput]
    by_cases h : k = t
    · subst h; rw [if_pos rfl]; simp [leAdd]
    · rw [if_neg h, ih]
      unfold leAdd
      by_cases h2 : k ∈ L
      · simp [h2]
      · simp [h, h2]
/-- A client's key. -/
def keyOf (keys : List (List Int)) (c : Int) : Option (List Int) := if 0 ≤ c then keys[c.toNat]? else none
/-- One seal more: the letters sealed so far, and who is told of what. -/
def readStep (keys : List (List Int)) (s : List LetT × List (Nat × SealT × Bool) × Nat) (x : SealT) : List LetT × List (Nat × SealT × Bool) × Nat :=
  match x.opened, keyOf keys x.client with
  | true, none => (s.1, s.2.1 ++ [(s.2.2, x, false)], s.2.2 + 1)
  | true, some k => (s.1, s.2.1 ++ [(s.2.2, x, decide ((x.peer, k, x.round, x.body) ∈ s.1))], s.2.2 + 1)
  | false, some k => (leAdd s.1 (k, x.peer, x.round, x.body), s.2.1, s.2.2 + 1)
  | false, none => (s.1, s.2.1, s.2.2 + 1)
def readF (keys : List (List Int)) (ls : List SealT) : List LetT × List (Nat × SealT × Bool) × Nat := ls.foldl (readStep keys) ([], [], 0)
theorem read_take {keys : List (List Int)} {ls : List SealT} {i : Nat} {x : SealT} (h : ls[i]? = some x) : readF keys (ls.take (i + 1)) = readStep keys (readF keys (ls.take i)) x := by
  unfold readF
  rw [List.take_add_one, h, Option.toList_some, List.foldl_append]; rfl
theorem read_count (keys : List (List Int)) (ls : List SealT) : (readF keys ls).2.2 = ls.length := by
  have h : ∀ (ls : List SealT) (s : List LetT × List (Nat × SealT × Bool) × Nat), (ls.foldl (readStep keys) s).2.2 = s.2.2 + ls.length := by
    intro ls
    induction ls with
    | nil => intro s; rfl
    | cons x r ih =>
      intro s
      rw [List.foldl_cons, ih, List.length_cons]
      have : (readStep keys s x).2.2 = s.2.2 + 1 := by unfold readStep; split <;> rfl
      omega
  unfold readF
  rw [h]; simp
theorem le_from {k : LetT} {a : List Int} (h : LeOk k) (ha : a.length = 32) : (leE k).take 0 ++ ints .u8 a ++ (leE k).drop (0 + (ints .u8 a).length) = leE (a, k.2) := by
  have e : (ints .u8 k.1).length = 32 := by simp [ints, h.1]
  have e2 : (ints .u8 a).length = 32 := by simp [ints, ha]
  simp only [leE, List.take_zero, List.nil_append, Nat.zero_add]
  rw [e2, List.drop_append, List.drop_of_length_le (by omega), e]
  simp
theorem le_to {k : LetT} {a : List Int} (h : LeOk k) (ha : a.length = 32) : (leE k).take 32 ++ ints .u8 a ++ (leE k).drop (32 + (ints .u8 a).length) = leE (k.1, a, k.2.2) := by
  have e : (ints .u8 k.1).length = 32 := by simp [ints, h.1]
  have e1 : (ints .u8 k.2.1).length = 32 := by simp [ints, h.2.1]
  have e2 : (ints .u8 a).length = 32 := by simp [ints, ha]
  simp only [leE]
  rw [e2, List.take_append_of_le_length (by omega), List.take_of_length_le (by omega), List.drop_append, List.drop_of_length_le (by omega), e, List.drop_append, List.drop_of_length_le (by omega), e1]
  simp
theorem leE_length {k : LetT} (h : LeOk k) : (leE k).length = 195 := by simp [leE, ints, h.1, h.2.1, h.2.2]
theorem leE_one (k : LetT) : ∀ v ∈ leE k, v.oneCell' = true := by
  intro v hv
  simp only [leE, ints, List.mem_cons, List.mem_append, List.mem_map] at hv
  rcases hv with ⟨_, _, rfl⟩ | ⟨_, _, rfl⟩ | rfl | ⟨_, _, rfl⟩ <;> rfl
theorem ones_u8' (xs : List Int) : ∀ u ∈ ints .u8 xs, u.oneCell' = true := by
  intro u hu
  obtain ⟨z, _, rfl⟩ := List.mem_map.1 hu
  rfl
theorem l_storeFrom {E : World} {n : Nat} {ds : List Deferred} {env : Fr} {l r : List HProp} {N : Fr → List HProp → Prop} {ty : TypeId} {pos : String} {af : Array Edge} {gd : Option (Nat × Bool)} {x y : Operand} {b o : Nat} {e : TypeId} {k : LetT} {a : List Int}
    (hx : val env x = some (.pointer (some ⟨b, o, none⟩))) (ho : o = 0) (hy : val env y = some (.agg (ints .u8 a).toArray)) (hk : LeOk k) (ha : a.length = 32) (hp : Pick l (row b e (leE k)) r) (h : N env (row b e (leE (a, k.2)) :: r)) :
    LS prog E n ds ⟨none, .store 50 x y, ty, pos, af, gd⟩ env l N := by
  subst ho
  exact l_storeN hT rfl hx hy (by simp [ints, ha]; rfl) (ones_u8' a) hp (by rw [leE_length hk]; simp [ints, ha]) (by rw [le_from hk ha]; exact h)
theorem l_storeTo {E : World} {n : Nat} {ds : List Deferred} {env : Fr} {l r : List HProp} {N : Fr → List HProp → Prop} {ty : TypeId} {pos : String} {af : Array Edge} {gd : Option (Nat × Bool)} {x y : Operand} {b o : Nat} {e : TypeId} {k : LetT} {a : List Int}
    (hx : val env x = some (.pointer (some ⟨b, o, none⟩))) (ho : o = 32) (hy : val env y = some (.agg (ints .u8 a).toArray)) (hk : LeOk k) (ha : a.length = 32) (hp : Pick l (row b e (leE k)) r) (h : N env (row b e (leE (k.1, a, k.2.2)) :: r)) :
    LS prog E n ds ⟨none, .store 50 x y, ty, pos, af, gd⟩ env l N := by
  subst ho
  exact l_storeN hT rfl hx hy (by simp [ints, ha]; rfl) (ones_u8' a) hp (by rw [leE_length hk]; simp [ints, ha]) (by rw [le_to hk ha]; exact h)
/-- A letter with no names yet. -/
def le0 (r : Int) (b : List Int) : LetT := (List.replicate 32 0, List.replicate 32 0, r, b)
theorem le0_ok {r : Int} {b : List Int} (h : b.length = 130) : LeOk (le0 r b) := ⟨by simp [le0], by simp [le0], h⟩
theorem keyOf_some {keys : List (List Int)} {c : Int} {k : List Int} (h : keyOf keys c = some k) : 0 ≤ c ∧ c < keys.length ∧ keys[c.toNat]? = some k := by
  unfold keyOf at h
  split at h
  · refine ⟨by assumption, ?_, h⟩
    obtain ⟨h1, _⟩ := List.getElem?_eq_some_iff.1 h
    omega
  · cases h
theorem keyOf_none {keys : List (List Int)} {c : Int} (h : keyOf keys c = none) : ¬ (0 ≤ c ∧ c < keys.length) := by
  unfold keyOf at h
  split at h
  · rw [List.getElem?_eq_none_iff] at h; omega
  · omega
theorem keyOf_isSome (keys : List (List Int)) (c : Int) : (keyOf keys c).isSome = decide (0 ≤ c ∧ c < keys.length) := by
  unfold keyOf
  by_cases h : 0 ≤ c
  · rw [if_pos h]
    by_cases h2 : c < keys.length
    · rw [List.getElem?_eq_getElem (by omega), decide_eq_true ⟨h, h2⟩]; rfl
    · rw [List.getElem?_eq_none (by omega), decide_eq_false (fun q => h2 q.2)]; rfl
  · rw [if_neg h, decide_eq_false (fun q => h q.1)]; rfl
end
end
section
open Go Go.SL
section
theorem fillok_let {r : Int} {b : List Int} (hb : b.length = 130) : fillOk [(0, 32), (32, 32), (64, 1), (65, 130)] 195 [(2, [Value.int .u64 r]), (3, ints .u8 b)] := ⟨⟨rfl, by decide⟩, ⟨by simp [ints, hb], by decide⟩, trivial⟩
set_option maxRecDepth 100000 in
theorem fill_let {zs : List Value} {r : Int} {b : List Int} (hz : zs.length = 195) (h64 : zs.take 64 = ints .u8 (List.replicate 32 0) ++ ints .u8 (List.replicate 32 0)) (hb : b.length = 130) :
    fillE [(0, 32), (32, 32), (64, 1), (65, 130)] zs [(2, [Value.int .u64 r]), (3, ints .u8 b)] = leE (le0 r b) := by
  have e : fillE [(0, 32), (32, 32), (64, 1), (65, 130)] zs [(2, [Value.int .u64 r]), (3, ints .u8 b)] = (zs.take 64 ++ [Value.int .u64 r] ++ zs.drop (64 + 1)).take 65 ++ ints .u8 b ++ (zs.take 64 ++ [Value.int .u64 r] ++ zs.drop (64 + 1)).drop (65 + 130) := rfl
  have e1 : (ints .u8 (List.replicate 32 0)).length = 32 := by simp [ints]
  rw [e, h64, List.take_left' (by simp [e1]), List.drop_of_length_le (by simp [e1, hz])]
  simp [leE, le0]
end
section
attribute [local irreducible] J JL JE JM LS Y Fc RV Code.wp wpList Code.wpIn wpListIn
attribute [local irreducible] Yc
variable (E : World)
theorem read_spec (fs : FuncId) (eF : Ent prog fs) (caps : List Value) (kp : Option Addr) (kn kc : Nat) (keys : List (List Int)) (lp : Option Addr) (n lc : Nat) (ls : List SealT) (A : List (Nat × SealT × Bool) → HProp) (l : List HProp)
    (hkn : keys.length = kn) (hk32 : ∀ k ∈ keys, k.length = 32) (hkin : InL l kp kn kc (keys.flatMap (ints .u8))) (hkm : kn ≤ 1000000)
    (hn : ls.length = n) (hn8 : n ≤ 1000000) (hok : ∀ x ∈ ls, SeOk x) (hin : InL l lp n lc (ls.flatMap seE))
    (hsee : ∀ (r : List HProp) (i : Nat) (x : SealT) (cv : Bool), ls[i]? = some x → (∃ m, r = m ++ l) → Fc prog E fs ([Value.int .i64 i, .agg (seE x).toArray, .bool cv] ++ caps).toArray (A (readF keys (ls.take i)).2.1 :: r) (fun v l' => v = .tuple #[] ∧ l' = A ((readF keys (ls.take i)).2.1 ++ [(i, x, cv)]) :: r)) :
    Fc prog E 44 [.slice kp kn kc, .slice lp n lc, .func (.func fs) #[] caps.toArray].toArray (A [] :: l) (fun v l' => v = .tuple #[] ∧ l' = A (readF keys ls).2.1 :: l) := by
  refine Fc.eqs ?_
  refine Fc.of_body (c := ?codeC) Tryd.func44 ?hb Tryd.ntmps44 ?hl ?_
  case hb => exact rfl
  case hl => exact rfl
  refine J.seq ?_
  refine J.region ?_
  refine JL.loud rfl (l_makeMap rfl (fun b1 => ?_))
  refine JL.step (y_assign rfl) rfl rfl rfl ?_
  refine JL.nil ?_
  refine JE.then_normal ?_
  refine J.seq ?_
  refine J.region ?_
  refine JL.step (y_move rfl) rfl rfl rfl (JL.step (y_len_slice hT rfl rfl rfl) rfl rfl rfl (JL.step (y_move rfl) rfl rfl rfl ?_))
  refine JL.nil ?_
  refine JE.then_normal ?_
  refine J.block ?_
  refine J.pre (l' := mapA letK LeOk b1 (leM []) :: A [] :: l) (fun w s => s.map_new (enc := letK) (ok := LeOk)) ?_
  refine J.loop (α := Nat) (fun i => i ≤ n) (fun i => [(0, .slice kp kn kc), (2, .func (.func fs) #[] caps.toArray), (6, .map (some b1)), (12, .slice lp n lc), (13, .int .i64 n), (14, .int .i64 i)]) (fun i => mapA letK LeOk b1 (leM (readF keys (ls.take i)).1) :: A (readF keys (ls.take i)).2.1 :: l) (fun i => n - i) 0 (Nat.zero_le _) ⟨rfl, rfl, rfl, rfl, rfl, rfl, trivial⟩ (fun w h => h) ?_
  intro i hi
  try dsimp only
  refine J.seq ?_
  refine J.region ?_
  refine JL.step (y_lss rfl rfl) rfl rfl rfl ?_
  refine JL.nil ?_
  refine JE.then_normal ?_
  refine J.seq ?_
  first | apply J.cond_dec rfl | apply J.cond rfl
  case' ht =>
    intro h
    try (first | (exfalso; omega) | (cases h; done) | (exfalso; simp at h; done) | subst h)
    all_goals
      refine J.skip ?_
  case' hf =>
    intro h
    try (first | (exfalso; omega) | (cases h; done) | (exfalso; simp at h; done) | subst h)
    all_goals
      refine J.exit ?_
      refine JE.then_exit ?_
      refine JE.then_exit ?_
      refine JE.block_exit ?_
      refine JE.ret0 (.inr rfl) rfl rfl  ?_
      obtain rfl : i = n := by omega
      rw [List.take_of_length_le (by omega)]
      exact ⟨rfl, fun w h => h.sup (by (repeat (first | exact Sup.refl | apply Sup.cons (by (repeat (first | exact Pick.head | apply Pick.tail | apply Pick.app))) | apply Sup.app | apply Sup.skip | apply Sup.skips)))⟩
  all_goals refine JE.then_normal ?_
  all_goals
    refine J.seq ?_
    refine J.block ?_
    refine J.seq ?_
    refine J.region ?_
    have hlt : i < n := by omega
    obtain ⟨x, hh⟩ : ∃ x, ls[i]? = some x := ⟨ls[i]'(by omega), List.getElem?_eq_getElem _⟩
    have hxk := hok x (List.mem_of_getElem? hh)
    have hst := read_take (keys := keys) hh
    have hct : (readF keys (ls.take i)).2.2 = i := by rw [read_count, List.length_take]; omega
    have hsee' := fun r cv => hsee r i x cv hh
    have hks := keyOf_isSome keys x.client
    have hpr := hxk.peer
    have hbd := hxk.body
    have hk1 := seE_peer hxk
    have hk2 := seE_round hxk
    have hk3 := seE_body hxk
    have hx1 := seE_length hxk
    obtain ⟨g, o, rfl, hr⟩ := hin.addr (by omega)
    refine JL.step (y_move rfl) rfl rfl rfl ?_
    refine JL.step (y_indexAddr_slice hT rfl rfl rfl rfl rfl (by (first | omega | exact Nat.le_of_ble_eq_true rfl | decide | (simp; omega))) (by (first | omega | exact Nat.le_of_ble_eq_true rfl | decide | (simp; omega)))) rfl rfl rfl ?_
    refine JL.step (y_loadN hT rfl rfl rfl (((RdN.elem (hr []) (fun x hx => seE_length (hok x hx)) hh).cons _).cons _) hx1) rfl rfl rfl ?_
    refine JL.loud rfl (l_alloc hT rfl rfl (by (first | rfl | simp)) rfl (fun b2 => ?_))
    refine JL.step (y_assign rfl) rfl rfl rfl ?_
    refine JL.loud rfl (l_storeAll hT rfl rfl rfl hx1 (seE_one x) (by (repeat (first | exact Pick.head | apply Pick.tail | apply Pick.app))) (by (first | rfl | assumption | (simp; done) | omega)) ?_)
    refine JL.nil ?_
    refine JE.then_normal ?_
    refine J.seqK (α := Bool) (fun kb => kb = (keyOf keys x.client).isSome) (fun kb => [(0, .slice kp kn kc), (2, .func (.func fs) #[] caps.toArray), (6, .map (some b1)), (7, .int .i64 i), (8, .pointer (some ⟨b2, 0, none⟩)), (9, .bool kb), (12, .slice (some ⟨g, o, none⟩) n lc), (13, .int .i64 n), (14, .int .i64 i)]) (fun _ => row b2 55 (seE x) :: mapA letK LeOk b1 (leM (readF keys (ls.take i)).1) :: A (readF keys (ls.take i)).2.1 :: l) ?hj5 (fun hk5 => ?hf5)
    case hf5 =>
      refine J.region ?_
      refine JL.step (y_fieldAddr hT rfl rfl rfl rfl rfl rfl) rfl rfl rfl ?_
      refine JL.step (y_load1 hT rfl rfl rfl (by (exact Rd1.row (by (repeat (first | exact Pick.head | apply Pick.tail | apply Pick.app))) (by rfl)))) rfl rfl rfl ?_
      refine JL.step (y_geq rfl rfl) rfl rfl rfl (JL.step (y_move rfl) rfl rfl rfl ?_)
      all_goals (first | (refine JL.gsplit_dec rfl rfl rfl (fun h => ?_) (fun h => ?_) <;> try (first | (exfalso; omega) | exact absurd rfl h)) | (refine JL.gsplit rfl rfl rfl (fun h => ?_) (fun h => ?_) <;> try (first | cases h | (exfalso; simp at h; done))) | skip)
      all_goals (first | refine JL.gskip rfl rfl rfl rfl rfl rfl ?_ | refine JL.gskipU rfl rfl rfl rfl rfl ?_ | refine JL.gstep rfl rfl rfl (y_fieldAddr hT rfl rfl rfl rfl rfl rfl) rfl rfl ?_)
      all_goals (first | refine JL.gskip rfl rfl rfl rfl rfl rfl ?_ | refine JL.gskipU rfl rfl rfl rfl rfl ?_ | refine JL.gstep rfl rfl rfl (y_load1 hT rfl rfl rfl (by (exact Rd1.row (by (repeat (first | exact Pick.head | apply Pick.tail | apply Pick.app))) (by rfl)))) rfl rfl ?_)
      all_goals (first | refine JL.gskip rfl rfl rfl rfl rfl rfl ?_ | refine JL.gskipU rfl rfl rfl rfl rfl ?_ | refine JL.gstep rfl rfl rfl (y_move rfl) rfl rfl ?_)
      all_goals (first | refine JL.gskip rfl rfl rfl rfl rfl rfl ?_ | refine JL.gskipU rfl rfl rfl rfl rfl ?_ | refine JL.gstep rfl rfl rfl (y_len_slice hT rfl rfl rfl) rfl rfl ?_)
      all_goals (first | refine JL.gskip rfl rfl rfl rfl rfl rfl ?_ | refine JL.gskipU rfl rfl rfl rfl rfl ?_ | refine JL.gstep rfl rfl rfl (y_lss rfl rfl) rfl rfl ?_)
      all_goals (refine JL.step (y_pick rfl rfl rfl) rfl rfl rfl ?_)
      all_goals (refine JL.step (y_assign rfl) rfl rfl rfl ?_)
      all_goals refine JL.nil ?_
      all_goals refine JE.then_normal ?_
      all_goals
        first
        | exact J.closeK hk5 (decide (x.client < (kn : Int))) (by rw [hks, hkn]; exact decide_eq_decide.2 ⟨fun q => ⟨by omega, q⟩, fun q => q.2⟩) ⟨rfl, rfl, rfl, rfl, rfl, rfl, rfl, rfl, rfl, trivial⟩ (fun w h => h)
        | exact J.closeK hk5 false (by rw [hks, decide_eq_false]; omega) ⟨rfl, rfl, rfl, rfl, rfl, rfl, rfl, rfl, rfl, trivial⟩ (fun w h => h)
    rintro kb hkb
    try dsimp only
    obtain ⟨client, opened, peer, round, body⟩ := x
    dsimp only at hkb hpr hbd hk1 hk2 hk3 ⊢
    refine J.seq ?_
    refine J.region ?_
    refine JL.step (y_fieldAddr hT rfl rfl rfl rfl rfl rfl) rfl rfl rfl (JL.step (y_fieldAddr hT rfl rfl rfl rfl rfl rfl) rfl rfl rfl ?_)
    refine JL.step (y_load1 hT rfl rfl rfl (Rd1.row (by (repeat (first | exact Pick.head | apply Pick.tail | apply Pick.app))) hk2)) rfl rfl rfl ?_
    refine JL.step (y_fieldAddr hT rfl rfl rfl rfl rfl rfl) rfl rfl rfl (JL.step (y_fieldAddr hT rfl rfl rfl rfl rfl rfl) rfl rfl rfl ?_)
    refine JL.step (y_loadN hT rfl rfl rfl (RdN.row (n := 130) (vs := ints .u8 body) (by (repeat (first | exact Pick.head | apply Pick.tail | apply Pick.app))) hk3) (by simp [ints, hbd]; rfl)) rfl rfl rfl ?_
    refine JL.step (v := .agg (leE (le0 round body)).toArray) (y_build (cs := leE (le0 round body)) hT rfl rfl rfl rfl rfl rfl (fillok_let hbd) (fill_let rfl rfl hbd)) rfl rfl rfl ?_
    refine JL.loud rfl (l_alloc hT rfl rfl (by (first | rfl | simp)) rfl (fun b3 => ?_))
    refine JL.loud rfl (l_storeAll hT rfl rfl rfl (leE_length (le0_ok hbd)) (leE_one _) (by (repeat (first | exact Pick.head | apply Pick.tail | apply Pick.app))) (by (first | rfl | assumption | (simp; done) | omega)) ?_)
    refine JL.nil ?_
    refine JE.then_normal ?_
    rcases hkey : keyOf keys client with _ | k <;> cases opened
    all_goals simp only [readStep, hkey, hct] at hst
    all_goals rw [hkey] at hkb
    all_goals subst hkb
    ·
      skip
      refine J.block ?_
      refine J.seq ?_
      refine J.region ?_
      refine JL.step (y_fieldAddr hT rfl rfl rfl rfl rfl rfl) rfl rfl rfl (JL.step (y_fieldAddr hT rfl rfl rfl rfl rfl rfl) rfl rfl rfl ?_)
      refine JL.step (y_load1 hT rfl rfl rfl (by (exact Rd1.row (by (repeat (first | exact Pick.head | apply Pick.tail | apply Pick.app))) (by rfl)))) rfl rfl rfl ?_
      refine JL.step (y_move rfl) rfl rfl rfl ?_
      all_goals (first | (refine JL.gsplit_dec rfl rfl rfl (fun h => ?_) (fun h => ?_) <;> try (first | (exfalso; omega) | exact absurd rfl h)) | (refine JL.gsplit rfl rfl rfl (fun h => ?_) (fun h => ?_) <;> try (first | cases h | (exfalso; simp at h; done))) | skip)
      all_goals (first | refine JL.gskip rfl rfl rfl rfl rfl rfl ?_ | refine JL.gskipU rfl rfl rfl rfl rfl ?_ | refine JL.gstep rfl rfl rfl (y_move rfl) rfl rfl ?_)
      all_goals (first | refine JL.gskip rfl rfl rfl rfl rfl rfl ?_ | refine JL.gskipU rfl rfl rfl rfl rfl ?_ | refine JL.gstep rfl rfl rfl (y_not rfl) rfl rfl ?_)
      all_goals (refine JL.step (y_pick rfl rfl rfl) rfl rfl rfl ?_)
      all_goals (refine JL.step (y_assign rfl) rfl rfl rfl ?_)
      all_goals refine JL.nil ?_
      all_goals refine JE.then_normal ?_
      all_goals
        refine J.cond_f rfl (by (first | rfl | assumption | (simp; done) | (simp; omega))) ?_
        refine J.seq ?_
        refine J.region ?_
        refine JL.step (y_fieldAddr hT rfl rfl rfl rfl rfl rfl) rfl rfl rfl (JL.step (y_fieldAddr hT rfl rfl rfl rfl rfl rfl) rfl rfl rfl ?_)
        refine JL.step (y_load1 hT rfl rfl rfl (by (exact Rd1.row (by (repeat (first | exact Pick.head | apply Pick.tail | apply Pick.app))) (by rfl)))) rfl rfl rfl ?_
        refine JL.step (y_assign rfl) rfl rfl rfl ?_
        refine JL.nil ?_
        refine JE.then_normal ?_
        refine J.cond_f rfl (by (first | rfl | assumption | (simp; done) | (simp; omega))) ?_
        refine J.seq ?_
        refine J.region ?_
        refine JL.step (y_move rfl) rfl rfl rfl (JL.step (y_assign rfl) rfl rfl rfl ?_)
        refine JL.nil ?_
        refine JE.then_normal ?_
        refine J.cond_f rfl (by (first | rfl | assumption | (simp; done) | (simp; omega))) ?_
        refine J.skip ?_
      all_goals refine JE.block_normal ?_
      all_goals
        refine JE.block_normal ?_
        refine JE.then_normal ?_
        refine J.region ?_
        refine JL.step (y_add rfl rfl (by (first | exact wrap_i64 (by omega) (by omega) | rfl))) rfl rfl rfl ?_
        refine JL.step (y_move rfl) rfl rfl rfl ?_
        refine JL.nil ?_
        exact JE.round (s := i) (i + 1) (by omega) ⟨rfl, rfl, rfl, rfl, rfl, rfl, trivial⟩ (fun w h => by rw [hst]; exact h.sup (by (repeat (first | exact Sup.refl | apply Sup.cons (by (repeat (first | exact Pick.head | apply Pick.tail | apply Pick.app))) | apply Sup.app | apply Sup.skip | apply Sup.skips)))) (by omega)
    ·
      skip
      refine J.block ?_
      refine J.seq ?_
      refine J.region ?_
      refine JL.step (y_fieldAddr hT rfl rfl rfl rfl rfl rfl) rfl rfl rfl (JL.step (y_fieldAddr hT rfl rfl rfl rfl rfl rfl) rfl rfl rfl ?_)
      refine JL.step (y_load1 hT rfl rfl rfl (by (exact Rd1.row (by (repeat (first | exact Pick.head | apply Pick.tail | apply Pick.app))) (by rfl)))) rfl rfl rfl ?_
      refine JL.step (y_move rfl) rfl rfl rfl ?_
      all_goals (first | (refine JL.gsplit_dec rfl rfl rfl (fun h => ?_) (fun h => ?_) <;> try (first | (exfalso; omega) | exact absurd rfl h)) | (refine JL.gsplit rfl rfl rfl (fun h => ?_) (fun h => ?_) <;> try (first | cases h | (exfalso; simp at h; done))) | skip)
      all_goals (first | refine JL.gskip rfl rfl rfl rfl rfl rfl ?_ | refine JL.gskipU rfl rfl rfl rfl rfl ?_ | refine JL.gstep rfl rfl rfl (y_move rfl) rfl rfl ?_)
      all_goals (first | refine JL.gskip rfl rfl rfl rfl rfl rfl ?_ | refine JL.gskipU rfl rfl rfl rfl rfl ?_ | refine JL.gstep rfl rfl rfl (y_not rfl) rfl rfl ?_)
      all_goals (refine JL.step (y_pick rfl rfl rfl) rfl rfl rfl ?_)
      all_goals (refine JL.step (y_assign rfl) rfl rfl rfl ?_)
      all_goals refine JL.nil ?_
      all_goals refine JE.then_normal ?_
      all_goals
        refine J.cond_t rfl (by (first | rfl | assumption | (simp; done) | (simp; omega))) ?_
        refine J.region ?_
        refine JL.step (y_move rfl) rfl rfl rfl (JL.step (y_move rfl) rfl rfl rfl ?_)
        refine JL.step (y_loadN hT rfl rfl rfl (by (first | exact RdN.rowAll (by (repeat (first | exact Pick.head | apply Pick.tail | apply Pick.app))) | exact RdN.own (by (repeat (first | exact Pick.head | apply Pick.tail | apply Pick.app))))) (by (first | rfl | assumption | (simp; done) | omega))) rfl rfl rfl ?_
        refine JL.loud rfl (l_callV eF rfl rfl rfl (Fc.on (Split.cons (by (repeat (first | exact Pick.head | apply Pick.tail | apply Pick.app))) Split.nil) (hsee' _ false ⟨[_, _, _], rfl⟩)) ?_)
        rintro _ _ ⟨rfl, rfl⟩
        refine JL.nil ?_
      all_goals refine JE.block_normal ?_
      all_goals
        refine JE.block_normal ?_
        refine JE.then_normal ?_
        refine J.region ?_
        refine JL.step (y_add rfl rfl (by (first | exact wrap_i64 (by omega) (by omega) | rfl))) rfl rfl rfl ?_
        refine JL.step (y_move rfl) rfl rfl rfl ?_
        refine JL.nil ?_
        exact JE.round (s := i) (i + 1) (by omega) ⟨rfl, rfl, rfl, rfl, rfl, rfl, trivial⟩ (fun w h => by rw [hst]; exact h.sup (by (repeat (first | exact Sup.refl | apply Sup.cons (by (repeat (first | exact Pick.head | apply Pick.tail | apply Pick.app))) | apply Sup.app | apply Sup.skip | apply Sup.skips)))) (by omega)
    ·
      skip
      refine J.block ?_
      refine J.seq ?_
      refine J.region ?_
      refine JL.step (y_fieldAddr hT rfl rfl rfl rfl rfl rfl) rfl rfl rfl (JL.step (y_fieldAddr hT rfl rfl rfl rfl rfl rfl) rfl rfl rfl ?_)
      refine JL.step (y_load1 hT rfl rfl rfl (by (exact Rd1.row (by (repeat (first | exact Pick.head | apply Pick.tail | apply Pick.app))) (by rfl)))) rfl rfl rfl ?_
      refine JL.step (y_move rfl) rfl rfl rfl ?_
      all_goals (first | (refine JL.gsplit_dec rfl rfl rfl (fun h => ?_) (fun h => ?_) <;> try (first | (exfalso; omega) | exact absurd rfl h)) | (refine JL.gsplit rfl rfl rfl (fun h => ?_) (fun h => ?_) <;> try (first | cases h | (exfalso; simp at h; done))) | skip)
      all_goals (first | refine JL.gskip rfl rfl rfl rfl rfl rfl ?_ | refine JL.gskipU rfl rfl rfl rfl rfl ?_ | refine JL.gstep rfl rfl rfl (y_move rfl) rfl rfl ?_)
      all_goals (first | refine JL.gskip rfl rfl rfl rfl rfl rfl ?_ | refine JL.gskipU rfl rfl rfl rfl rfl ?_ | refine JL.gstep rfl rfl rfl (y_not rfl) rfl rfl ?_)
      all_goals (refine JL.step (y_pick rfl rfl rfl) rfl rfl rfl ?_)
      all_goals (refine JL.step (y_assign rfl) rfl rfl rfl ?_)
      all_goals refine JL.nil ?_
      all_goals refine JE.then_normal ?_
      all_goals
        refine J.cond_f rfl (by (first | rfl | assumption | (simp; done) | (simp; omega))) ?_
        refine J.seq ?_
        refine J.region ?_
        refine JL.step (y_fieldAddr hT rfl rfl rfl rfl rfl rfl) rfl rfl rfl (JL.step (y_fieldAddr hT rfl rfl rfl rfl rfl rfl) rfl rfl rfl ?_)
        refine JL.step (y_load1 hT rfl rfl rfl (by (exact Rd1.row (by (repeat (first | exact Pick.head | apply Pick.tail | apply Pick.app))) (by rfl)))) rfl rfl rfl ?_
        refine JL.step (y_assign rfl) rfl rfl rfl ?_
        refine JL.nil ?_
        refine JE.then_normal ?_
        refine J.cond_f rfl (by (first | rfl | assumption | (simp; done) | (simp; omega))) ?_
        refine J.seq ?_
        refine J.region ?_
        refine JL.step (y_move rfl) rfl rfl rfl (JL.step (y_assign rfl) rfl rfl rfl ?_)
        refine JL.nil ?_
        refine JE.then_normal ?_
        refine J.cond_t rfl (by (first | rfl | assumption | (simp; done) | (simp; omega))) ?_
        refine J.seq ?_
        obtain ⟨hc0, hc1, hck⟩ := keyOf_some hkey
        have hkl := hk32 k (List.mem_of_getElem? hck)
        obtain ⟨kg, ko, rfl, hkr⟩ := hkin.addr (by omega)
        have hke : RdN l kg (ko + client.toNat * 32) (ints .u8 k) := RdN.elem (hkr []) (fun k hk => by simp [ints, hk32 k hk]) hck
        have hlk : LeOk (k, peer, round, body) := ⟨hkl, hpr, hbd⟩
        refine J.draw _ _ [(0, .q), (1, .q), (2, .q), (3, .q), (4, .q), (5, .q), (6, .q), (7, .q), (8, .q), (9, .l), (10, .q), (11, .l)] mixed (by kernel_rfl) (Split.cons (Pick.head) (Split.nil)) ?_
        refine JM.quiet rfl rfl rfl rfl (fun m => y_move rfl) ?_
        refine JM.quiet rfl rfl rfl rfl (fun m => y_fieldAddr hT rfl rfl rfl rfl rfl rfl) ?_
        refine JM.quiet rfl rfl rfl rfl (fun m => y_load1 hT rfl rfl rfl (by (exact Rd1.row (Pick.app m (by (repeat (first | exact Pick.head | apply Pick.tail | apply Pick.app)))) (by rfl)))) ?_
        refine JM.quiet rfl rfl rfl rfl (fun m => y_indexAddr_slice hT rfl rfl rfl rfl rfl (by (first | omega | exact Nat.le_of_ble_eq_true rfl | decide | (simp; omega))) (by (first | omega | exact Nat.le_of_ble_eq_true rfl | decide | (simp; omega)))) ?_
        refine JM.quiet rfl rfl rfl rfl (fun m => y_loadN hT rfl rfl rfl (vs := ints .u8 k) (by (repeat (first | assumption | apply RdN.cons | apply RdN.app))) (by simp [ints, hkl]; rfl)) ?_
        refine JM.quiet rfl rfl rfl rfl (fun m => y_fieldAddr hT rfl rfl rfl rfl rfl rfl) ?_
        refine JM.quiet rfl rfl rfl rfl (fun m => y_fieldAddr hT rfl rfl rfl rfl rfl rfl) ?_
        refine JM.quiet rfl rfl rfl rfl (fun m => y_loadN hT rfl rfl rfl (RdN.row (n := 32) (vs := ints .u8 peer) (Pick.app m (by (repeat (first | exact Pick.head | apply Pick.tail | apply Pick.app)))) hk1) (by simp [ints, hpr]; rfl)) ?_
        refine JM.quiet rfl rfl rfl rfl (fun m => y_fieldAddr hT rfl rfl rfl rfl rfl rfl) ?_
        refine JM.loud rfl rfl (fun fr => l_storeFrom rfl rfl rfl (le0_ok hbd) hkl (by (repeat (first | exact Pick.head | apply Pick.tail | apply Pick.app))) ⟨[_], (by (repeat (first | exact Split.nil | exact Split.all | refine Split.cons Pick.head ?_))), ?_⟩)
        refine JM.quiet rfl rfl rfl rfl (fun m => y_fieldAddr hT rfl rfl rfl rfl rfl rfl) ?_
        refine JM.loud rfl rfl (fun fr => l_storeTo rfl rfl rfl (k := (k, (le0 round body).2)) ⟨hkl, (le0_ok hbd).2⟩ hpr (by (repeat (first | exact Pick.head | apply Pick.tail | apply Pick.app))) ⟨[_], (by (repeat (first | exact Split.nil | exact Split.all | refine Split.cons Pick.head ?_))), ?_⟩)
        refine JM.nil ?_
        refine JE.then_normal ?_
        refine J.region ?_
        refine JL.step (y_move rfl) rfl rfl rfl ?_
        refine JL.step (y_loadN hT rfl rfl rfl (vs := leE (k, peer, round, body)) (RdN.rowAll (by (repeat (first | exact Pick.head | apply Pick.tail | apply Pick.app)))) (leE_length hlk)) rfl rfl rfl ?_
        refine JL.loud rfl (l_mapUpdate (a := (k, peer, round, body)) hT rfl rfl keyLet rfl rfl rfl rfl hlk (by (repeat (first | exact Pick.head | apply Pick.tail | apply Pick.app))) ?_)
        refine JL.nil ?_
      all_goals refine JE.block_normal ?_
      all_goals
        refine JE.block_normal ?_
        refine JE.then_normal ?_
        refine J.region ?_
        refine JL.step (y_add rfl rfl (by (first | exact wrap_i64 (by omega) (by omega) | rfl))) rfl rfl rfl ?_
        refine JL.step (y_move rfl) rfl rfl rfl ?_
        refine JL.nil ?_
        exact JE.round (s := i) (i + 1) (by omega) ⟨rfl, rfl, rfl, rfl, rfl, rfl, trivial⟩ (fun w h => by rw [leM_put] at h; rw [hst]; exact h.sup (by (repeat (first | exact Sup.refl | apply Sup.cons (by (repeat (first | exact Pick.head | apply Pick.tail | apply Pick.app))) | apply Sup.app | apply Sup.skip | apply Sup.skips)))) (by omega)
    ·
      skip
      refine J.block ?_
      refine J.seq ?_
      refine J.region ?_
      refine JL.step (y_fieldAddr hT rfl rfl rfl rfl rfl rfl) rfl rfl rfl (JL.step (y_fieldAddr hT rfl rfl rfl rfl rfl rfl) rfl rfl rfl ?_)
      refine JL.step (y_load1 hT rfl rfl rfl (by (exact Rd1.row (by (repeat (first | exact Pick.head | apply Pick.tail | apply Pick.app))) (by rfl)))) rfl rfl rfl ?_
      refine JL.step (y_move rfl) rfl rfl rfl ?_
      all_goals (first | (refine JL.gsplit_dec rfl rfl rfl (fun h => ?_) (fun h => ?_) <;> try (first | (exfalso; omega) | exact absurd rfl h)) | (refine JL.gsplit rfl rfl rfl (fun h => ?_) (fun h => ?_) <;> try (first | cases h | (exfalso; simp at h; done))) | skip)
      all_goals (first | refine JL.gskip rfl rfl rfl rfl rfl rfl ?_ | refine JL.gskipU rfl rfl rfl rfl rfl ?_ | refine JL.gstep rfl rfl rfl (y_move rfl) rfl rfl ?_)
      all_goals (first | refine JL.gskip rfl rfl rfl rfl rfl rfl ?_ | refine JL.gskipU rfl rfl rfl rfl rfl ?_ | refine JL.gstep rfl rfl rfl (y_not rfl) rfl rfl ?_)
      all_goals (refine JL.step (y_pick rfl rfl rfl) rfl rfl rfl ?_)
      all_goals (refine JL.step (y_assign rfl) rfl rfl rfl ?_)
      all_goals refine JL.nil ?_
      all_goals refine JE.then_normal ?_
      all_goals
        refine J.cond_f rfl (by (first | rfl | assumption | (simp; done) | (simp; omega))) ?_
        refine J.seq ?_
        refine J.region ?_
        refine JL.step (y_fieldAddr hT rfl rfl rfl rfl rfl rfl) rfl rfl rfl (JL.step (y_fieldAddr hT rfl rfl rfl rfl rfl rfl) rfl rfl rfl ?_)
        refine JL.step (y_load1 hT rfl rfl rfl (by (exact Rd1.row (by (repeat (first | exact Pick.head | apply Pick.tail | apply Pick.app))) (by rfl)))) rfl rfl rfl ?_
        refine JL.step (y_assign rfl) rfl rfl rfl ?_
        refine JL.nil ?_
        refine JE.then_normal ?_
        refine J.cond_t rfl (by (first | rfl | assumption | (simp; done) | (simp; omega))) ?_
        refine J.seq ?_
        obtain ⟨hc0, hc1, hck⟩ := keyOf_some hkey
        have hkl := hk32 k (List.mem_of_getElem? hck)
        obtain ⟨kg, ko, rfl, hkr⟩ := hkin.addr (by omega)
        have hke : RdN l kg (ko + client.toNat * 32) (ints .u8 k) := RdN.elem (hkr []) (fun k hk => by simp [ints, hk32 k hk]) hck
        have hlk : LeOk (peer, k, round, body) := ⟨hpr, hkl, hbd⟩
        refine J.draw _ _ [(0, .q), (1, .q), (2, .q), (3, .q), (4, .q), (5, .q), (6, .q), (7, .q), (8, .q), (9, .l), (10, .q), (11, .l)] mixed (by kernel_rfl) (Split.cons (Pick.head) (Split.nil)) ?_
        refine JM.quiet rfl rfl rfl rfl (fun m => y_fieldAddr hT rfl rfl rfl rfl rfl rfl) ?_
        refine JM.quiet rfl rfl rfl rfl (fun m => y_fieldAddr hT rfl rfl rfl rfl rfl rfl) ?_
        refine JM.quiet rfl rfl rfl rfl (fun m => y_loadN hT rfl rfl rfl (RdN.row (n := 32) (vs := ints .u8 peer) (Pick.app m (by (repeat (first | exact Pick.head | apply Pick.tail | apply Pick.app)))) hk1) (by simp [ints, hpr]; rfl)) ?_
        refine JM.quiet rfl rfl rfl rfl (fun m => y_move rfl) ?_
        refine JM.quiet rfl rfl rfl rfl (fun m => y_fieldAddr hT rfl rfl rfl rfl rfl rfl) ?_
        refine JM.quiet rfl rfl rfl rfl (fun m => y_load1 hT rfl rfl rfl (by (exact Rd1.row (Pick.app m (by (repeat (first | exact Pick.head | apply Pick.tail | apply Pick.app)))) (by rfl)))) ?_
        refine JM.quiet rfl rfl rfl rfl (fun m => y_indexAddr_slice hT rfl rfl rfl rfl rfl (by (first | omega | exact Nat.le_of_ble_eq_true rfl | decide | (simp; omega))) (by (first | omega | exact Nat.le_of_ble_eq_true rfl | decide | (simp; omega)))) ?_
        refine JM.quiet rfl rfl rfl rfl (fun m => y_loadN hT rfl rfl rfl (vs := ints .u8 k) (by (repeat (first | assumption | apply RdN.cons | apply RdN.app))) (by simp [ints, hkl]; rfl)) ?_
        refine JM.quiet rfl rfl rfl rfl (fun m => y_fieldAddr hT rfl rfl rfl rfl rfl rfl) ?_
        refine JM.loud rfl rfl (fun fr => l_storeFrom rfl rfl rfl (le0_ok hbd) hpr (by (repeat (first | exact Pick.head | apply Pick.tail | apply Pick.app))) ⟨[_], (by (repeat (first | exact Split.nil | exact Split.all | refine Split.cons Pick.head ?_))), ?_⟩)
        refine JM.quiet rfl rfl rfl rfl (fun m => y_fieldAddr hT rfl rfl rfl rfl rfl rfl) ?_
        refine JM.loud rfl rfl (fun fr => l_storeTo rfl rfl rfl (k := (peer, (le0 round body).2)) ⟨hpr, (le0_ok hbd).2⟩ hkl (by (repeat (first | exact Pick.head | apply Pick.tail | apply Pick.app))) ⟨[_], (by (repeat (first | exact Split.nil | exact Split.all | refine Split.cons Pick.head ?_))), ?_⟩)
        refine JM.nil ?_
        refine JE.then_normal ?_
        refine J.draw _ _ [(0, .q), (1, .q), (2, .q), (3, .q), (4, .q), (5, .q), (6, .l)] mixed (by kernel_rfl) (Split.cons (Pick.tail (Pick.tail (Pick.tail Pick.head))) (Split.nil)) ?_
        refine JM.quiet rfl rfl rfl rfl (fun m => y_move rfl) ?_
        refine JM.quiet rfl rfl rfl rfl (fun m => y_move rfl) ?_
        refine JM.quiet rfl rfl rfl rfl (fun m => y_loadN hT rfl rfl rfl (RdN.rowAll (Pick.app m (by (repeat (first | exact Pick.head | apply Pick.tail | apply Pick.app))))) hx1) ?_
        refine JM.quiet rfl rfl rfl rfl (fun m => y_move rfl) ?_
        refine JM.quiet rfl rfl rfl rfl (fun m => y_loadN hT rfl rfl rfl (vs := leE (peer, k, round, body)) (RdN.rowAll (Pick.app m (by (repeat (first | exact Pick.head | apply Pick.tail | apply Pick.app))))) (leE_length hlk)) ?_
        refine JM.quiet rfl rfl rfl rfl (fun m => Y.val (y_lookup (a := (peer, k, round, body)) hT rfl rfl rfl rfl keyLet rfl rfl rfl hlk (Pick.app m (by (repeat (first | exact Pick.head | apply Pick.tail | apply Pick.app))))) (leM_look _ _)) ?_
        refine JM.loud rfl rfl (fun fr => l_callV eF rfl rfl rfl (Fc.on (Split.cons Pick.head Split.nil) (hsee' _ _ ⟨fr ++ [_, _, _], (List.append_assoc fr [_, _, _] l).symm⟩)) ?_)
        rintro _ _ ⟨rfl, rfl⟩
        refine ⟨[_], (by (repeat (first | exact Split.nil | exact Split.all | refine Split.cons Pick.head ?_))), ?_⟩
        refine JM.nil ?_
      all_goals refine JE.block_normal ?_
      all_goals
        refine JE.block_normal ?_
        refine JE.then_normal ?_
        refine J.region ?_
        refine JL.step (y_add rfl rfl (by (first | exact wrap_i64 (by omega) (by omega) | rfl))) rfl rfl rfl ?_
        refine JL.step (y_move rfl) rfl rfl rfl ?_
        refine JL.nil ?_
        exact JE.round (s := i) (i + 1) (by omega) ⟨rfl, rfl, rfl, rfl, rfl, rfl, trivial⟩ (fun w h => by rw [hst]; exact h.sup (by (repeat (first | exact Sup.refl | apply Sup.cons (by (repeat (first | exact Pick.head | apply Pick.tail | apply Pick.app))) | apply Sup.app | apply Sup.skip | apply Sup.skips)))) (by omega)
end
end
section
open Go Go.SL
section
/-- The places that are told as not covered. -/
def accI (cs : List (Nat × SealT × Bool)) : List Int := (cs.filter fun c => !c.2.2).map fun c => (c.1 : Int)
theorem accI_snoc (cs : List (Nat × SealT × Bool)) (i : Nat) (x : SealT) (cv : Bool) : accI (cs ++ [(i, x, cv)]) = accI cs ++ (if cv then [] else [(i : Int)]) := by
  unfold accI
  rw [List.filter_append, List.map_append]
  cases cv <;> rfl
theorem calls_length (keys : List (List Int)) (ls : List SealT) : (readF keys ls).2.1.length ≤ ls.length := by
  have h : ∀ (ls : List SealT) (s : List LetT × List (Nat × SealT × Bool) × Nat), (ls.foldl (readStep keys) s).2.1.length ≤ s.2.1.length + ls.length := by
    intro ls
    induction ls with
    | nil => intro s; simp
    | cons x r ih =>
      intro s
      have h1 := ih (readStep keys s x)
      have h2 : (readStep keys s x).2.1.length ≤ s.2.1.length + 1 := by unfold readStep; split <;> simp
      rw [List.foldl_cons, List.length_cons]; omega
  have := h ls ([], [], 0)
  unfold readF
  simpa using this
theorem accI_length (cs : List (Nat × SealT × Bool)) : (accI cs).length ≤ cs.length := by
  unfold accI
  rw [List.length_map]
  exact List.length_filter_le ..
/-- Numbers that are being put together behind a variable. -/
def outI (bo : Nat) (xs : List Int) : HProp := pk fun q : Option Addr × Nat => [row bo 45 [.slice q.1 xs.length q.2], own 3 1 (.slice q.1 xs.length q.2) xs.length (xs.map (Value.int .i64))]
end
section
attribute [local irreducible] J JL JE JM LS Y Fc RV Code.wp wpList Code.wpIn wpListIn
attribute [local irreducible] Yc
variable (E : World)
theorem accidents1 (bo i : Nat) (x : SealT) (cv : Bool) (cs : List (Nat × SealT × Bool)) (r : List HProp) (hx : SeOk x) (hl : cs.length ≤ 1000000) :
    Fc prog E 45 [.int .i64 i, .agg (seE x).toArray, .bool cv, .pointer (some ⟨bo, 0, none⟩)].toArray (outI bo (accI cs) :: r) (fun v l' => v = .tuple #[] ∧ l' = outI bo (accI (cs ++ [(i, x, cv)])) :: r) := by
  have hal := accI_length cs
  rw [accI_snoc]
  refine Fc.eqs ?_
  refine Fc.pks fun q => ?_
  obtain ⟨a, c⟩ := q
  dsimp only
  refine Fc.of_body (c := ?codeC) Tryd.func45 ?hb Tryd.ntmps45 ?hl ?_
  case hb => exact rfl
  case hl => exact rfl
  refine J.seq ?_
  refine J.region ?_
  refine JL.loud rfl (l_box rfl (by (first | rfl | simp)) rfl (fun b1 => ?_))
  refine JL.nil ?_
  refine JE.then_normal ?_
  refine J.seq ?_
  refine J.region ?_
  refine JL.step (y_move rfl) rfl rfl rfl (JL.step (y_not rfl) rfl rfl rfl ?_)
  refine JL.nil ?_
  refine JE.then_normal ?_
  first | apply J.cond_dec rfl | apply J.cond rfl
  case' ht =>
    intro h
    try (first | (exfalso; omega) | (cases h; done) | (exfalso; simp at h; done) | subst h)
    all_goals
      refine J.region ?_
      refine JL.step (y_load1 hT rfl rfl rfl (by (exact Rd1.row (by (repeat (first | exact Pick.head | apply Pick.tail | apply Pick.app))) (by rfl)))) rfl rfl rfl ?_
      refine JL.step (y_move rfl) rfl rfl rfl ?_
      refine JL.loud rfl (l_buildSliceP hT rfl rfl rfl rfl rfl rfl rfl (by (first | exact fill_one rfl (by first | assumption | rfl | (simp; done)) | rfl | simp)) rfl (fun b2 => ?_))
      refine JL.loud rfl (l_append hT rfl rfl rfl rfl rfl rfl rfl rfl (by (repeat (first | exact Pick.head | apply Pick.tail | apply Pick.app))) (by (first | exact RdN.rowAll (by (repeat (first | exact Pick.head | apply Pick.tail | apply Pick.app))) | exact RdN.own (by (repeat (first | exact Pick.head | apply Pick.tail | apply Pick.app))))) (by (first | rfl | assumption | (simp; done) | omega)) (by (first | assumption | exact ones_of rfl | exact encW_one _ | exact encB_one _ | (intro u hu; simp at hu; rcases hu with rfl | rfl <;> rfl) | (intro u hu; simp at hu; subst hu; rfl) | simp)) (by (first | exact Nat.le_trans (Nat.mul_le_mul_left _ (Nat.le_of_ble_eq_true rfl : _ ≤ 4096)) (by omega) | exact Nat.le_trans (Nat.mul_le_mul_left _ (Nat.le_of_ble_eq_true rfl : _ ≤ 1)) (by omega))) (by (first | omega | exact Nat.le_of_ble_eq_true rfl | decide | (simp; omega))) rfl (fun ab3 cb3 hb3 => ?_))
      refine JL.loud rfl (l_store1 hT rfl rfl rfl rfl rfl (by (repeat (first | exact Pick.head | apply Pick.tail | apply Pick.app))) (by (first | omega | exact Nat.le_of_ble_eq_true rfl | decide | (simp; omega))) ?_)
      refine JL.nil ?_
  case' hf =>
    intro h
    try (first | (exfalso; omega) | (cases h; done) | (exfalso; simp at h; done) | subst h)
    all_goals
      refine J.skip ?_
  all_goals
    refine JE.ret0 (.inr rfl) rfl rfl  ?_
    refine ⟨rfl, fun w q => ?_⟩
    cases cv
    · first
      | (exfalso; revert h; decide)
      | rw [if_neg (by decide)]
        unfold outI
        refine Sat.topk (F := fun q : Option Addr × Nat => [row bo 45 [.slice q.1 (accI cs ++ [(i : Int)]).length q.2], own 3 1 (.slice q.1 (accI cs ++ [(i : Int)]).length q.2) (accI cs ++ [(i : Int)]).length ((accI cs ++ [(i : Int)]).map (Value.int .i64))]) (ab3, cb3) ?_
        dsimp only
        rw [List.length_append, List.map_append]
        exact q.sup (by (repeat (first | exact Sup.refl | apply Sup.cons (by (repeat (first | exact Pick.head | apply Pick.tail | apply Pick.app))) | apply Sup.app | apply Sup.skip | apply Sup.skips)))
    · first
      | (exfalso; revert h; decide)
      | rw [if_pos rfl, List.append_nil]
        unfold outI
        exact Sat.topk (F := fun q : Option Addr × Nat => [row bo 45 [.slice q.1 (accI cs).length q.2], own 3 1 (.slice q.1 (accI cs).length q.2) (accI cs).length ((accI cs).map (Value.int .i64))]) (a, c) (q.sup (by (repeat (first | exact Sup.refl | apply Sup.cons (by (repeat (first | exact Pick.head | apply Pick.tail | apply Pick.app))) | apply Sup.app | apply Sup.skip | apply Sup.skips))))
theorem accidents_spec (kp : Option Addr) (kn kc : Nat) (keys : List (List Int)) (lp : Option Addr) (n lc : Nat) (ls : List SealT) (l : List HProp)
    (hkn : keys.length = kn) (hk32 : ∀ k ∈ keys, k.length = 32) (hkin : InL l kp kn kc (keys.flatMap (ints .u8))) (hkm : kn ≤ 1000000)
    (hn : ls.length = n) (hn8 : n ≤ 1000000) (hok : ∀ x ∈ ls, SeOk x) (hin : InL l lp n lc (ls.flatMap seE)) :
    Fc prog E 23 [.slice kp kn kc, .slice lp n lc].toArray l (fun v l' => ∃ a c, v = .slice a (accI (readF keys ls).2.1).length c ∧ l' = own 3 1 v (accI (readF keys ls).2.1).length ((accI (readF keys ls).2.1).map (Value.int .i64)) :: l) := by
  refine Fc.post ?_
  refine Fc.of_body (c := ?codeC) Tryd.func23 ?hb Tryd.ntmps23 ?hl ?_
  case hb => exact rfl
  case hl => exact rfl
  refine J.seq ?_
  refine J.region ?_
  refine JL.step (y_assign rfl) rfl rfl rfl ?_
  refine JL.nil ?_
  refine JE.then_normal ?_
  refine J.seq ?_
  refine J.region ?_
  refine JL.loud rfl (l_alloc hT rfl rfl (by (first | rfl | simp)) rfl (fun b1 => ?_))
  refine JL.nil ?_
  refine JE.then_normal ?_
  refine J.seq ?_
  refine J.pre (l' := outI b1 (accI []) :: l) (fun w s => ?_) ?_
  · unfold outI
    exact Sat.topk (F := fun q : Option Addr × Nat => [row b1 45 [.slice q.1 0 q.2], own 3 1 (.slice q.1 0 q.2) 0 []]) (none, 0) ((Sat.own_nil (e := 3) (size := 1) s).sup (by (repeat (first | exact Sup.refl | apply Sup.cons (by (repeat (first | exact Pick.head | apply Pick.tail | apply Pick.app))) | apply Sup.app | apply Sup.skip | apply Sup.skips))))
  refine J.region ?_
  refine JL.step (y_move rfl) rfl rfl rfl (JL.step (y_move rfl) rfl rfl rfl (JL.step (y_makeFunc rfl rfl) rfl rfl rfl ?_))
  refine JL.loud rfl (l_callF e44 rfl rfl (read_spec E _ e45 [Value.pointer (some ⟨b1, 0, none⟩)] kp kn kc keys lp n lc ls (fun cs => outI b1 (accI cs)) l hkn hk32 hkin hkm hn hn8 hok hin (fun r i x cv hh _ => accidents1 E b1 i x cv _ r (hok x (List.mem_of_getElem? hh)) (by have := calls_length keys (ls.take i); rw [List.length_take] at this; omega))) ?_)
  rintro _ _ ⟨rfl, rfl⟩
  refine JL.nil ?_
  refine JE.then_normal ?_
  refine J.seq ?_
  unfold outI
  refine J.pks fun q => ?_
  obtain ⟨a, cq⟩ := q
  dsimp only
  refine J.region ?_
  refine JL.step (y_load1 hT rfl rfl rfl (by (exact Rd1.row (by (repeat (first | exact Pick.head | apply Pick.tail | apply Pick.app))) (by rfl)))) rfl rfl rfl ?_
  refine JL.step (y_assign rfl) rfl rfl rfl ?_
  refine JL.nil ?_
  refine JE.then_normal ?_
  refine J.ret ?_
  refine JE.ret1 (.inl rfl) rfl rfl (by (first | exact RV.tmp rfl | exact RV.cell1 hT rfl rfl rfl (by (exact Rd1.row (by (repeat (first | exact Pick.head | apply Pick.tail | apply Pick.app))) (by rfl))) | exact RV.cellN hT rfl rfl rfl (by (first | exact RdN.rowAll (by (repeat (first | exact Pick.head | apply Pick.tail | apply Pick.app))) | exact RdN.own (by (repeat (first | exact Pick.head | apply Pick.tail | apply Pick.app))))) (by (first | rfl | assumption | (simp; done) | omega)))) ?_
  exact ⟨_, fun w h => h.sup (by (repeat (first | exact Sup.refl | apply Sup.cons (by (repeat (first | exact Pick.head | apply Pick.tail | apply Pick.app))) | apply Sup.app | apply Sup.skip | apply Sup.skips))), a, cq, rfl, rfl⟩
end
end
section
open Go Go.SL
section
theorem count_bytes (s : ByteArray) : Lib.countByte s.data.toList (10 : UInt8) = (bytesS s).count 10 := by
  unfold Lib.countByte bytesS
  generalize s.data.toList = xs
  induction xs with
  | nil => rfl
  | cons x xs ih =>
    rw [List.map_cons, List.count_cons, List.count_cons, ih]
    congr 1
    have e : (x == 10) = (((x.toNat : Nat) : Int) == 10) := by
      rw [Bool.eq_iff_iff, beq_iff_eq, beq_iff_eq]
      constructor
      · rintro rfl; rfl
      · intro h
        have h2 : x.toNat = 10 := by omega
        exact UInt8.toNat_inj.1 h2
    rw [e]
end
section
attribute [local irreducible] J JL JE JM LS Y Fc RV Code.wp wpList Code.wpIn wpListIn
attribute [local irreducible] Yc
variable (E : World)
theorem count10 (s : ByteArray) (l : List HProp) : Fc prog E 32 [.string s, .string ⟨#[10]⟩].toArray l (fun v l' => v = .int .i64 ((bytesS s).count 10) ∧ l' = l) := by
  refine Fc.eqs ?_
  refine Fc.of_body (c := ?codeC) Tryd.func32 ?hb Tryd.ntmps32 ?hl ?_
  case hb => exact rfl
  case hl => exact rfl
  refine J.seq ?_
  refine J.region ?_
  refine JL.step (y_assign rfl) rfl rfl rfl ?_
  refine JL.nil ?_
  refine JE.then_normal ?_
  refine J.seq ?_
  refine J.seq ?_
  refine J.region ?_
  refine JL.step (y_move rfl) rfl rfl rfl (JL.step (y_len_string hT rfl rfl rfl) rfl rfl rfl (JL.step (y_eql rfl rfl) rfl rfl rfl ?_))
  refine JL.nil ?_
  refine JE.then_normal ?_
  refine J.cond_f rfl (by (first | rfl | assumption | (simp; done) | (simp; omega))) ?_
  refine J.skip ?_
  refine JE.then_normal ?_
  refine J.seq ?_
  refine J.seq ?_
  refine J.region ?_
  refine JL.step (y_move rfl) rfl rfl rfl (JL.step (y_len_string hT rfl rfl rfl) rfl rfl rfl (JL.step (y_eql rfl rfl) rfl rfl rfl ?_))
  refine JL.nil ?_
  refine JE.then_normal ?_
  refine J.cond_t rfl (by (first | rfl | assumption | (simp; done) | (simp; omega))) ?_
  refine J.seq ?_
  refine J.region ?_
  refine JL.step (y_move rfl) rfl rfl rfl (JL.step (y_move rfl) rfl rfl rfl ?_)
  refine JL.step (y_index_str (i := 0) (b := 10) hT rfl rfl rfl rfl rfl rfl) rfl rfl rfl ?_
  refine JL.loud rfl (l_callE (us := [.string s, .int .u8 10]) rfl rfl (fun w hs => ⟨.int .i64 (Lib.countByte s.data.toList (10 : UInt8)), w, l, ?_, hs, ?_⟩))
  · rw [run_callFunc_extern (fn := Tryd.f56) Tryd.func56 (by kernel_rfl) (by kernel_rfl) (by kernel_rfl) (he := show _ = some Extern.BytealgCount.count by kernel_rfl)]
    show ((Extern.BytealgCount.count #[.string s, .int .u8 10]).run prog w).andThen _ = _
    rw [Lib.run_countString]
    rfl
  refine JL.step (y_assign rfl) rfl rfl rfl ?_
  refine JL.nil ?_
  refine JE.then_normal ?_
  refine J.ret ?_
  refine JE.then_ret ?_
  refine JE.ret1 (.inl rfl) rfl rfl (by (first | exact RV.tmp rfl | exact RV.cell1 hT rfl rfl rfl (by (exact Rd1.row (by (repeat (first | exact Pick.head | apply Pick.tail | apply Pick.app))) (by rfl))) | exact RV.cellN hT rfl rfl rfl (by (first | exact RdN.rowAll (by (repeat (first | exact Pick.head | apply Pick.tail | apply Pick.app))) | exact RdN.own (by (repeat (first | exact Pick.head | apply Pick.tail | apply Pick.app))))) (by (first | rfl | assumption | (simp; done) | omega)))) ?_
  rw [count_bytes]
  exact ⟨rfl, fun w h => h⟩
end
end
section
open Go Go.SL
section
def wi77 : WireT := (77, 0, 0, 0, 0)
theorem wis_len (ws : List WireT) : (ws.flatMap wiE).length = ws.length * 5 := seg_len fun x _ => wiE_length x
theorem wis_one (ws : List WireT) : ∀ u ∈ ws.flatMap wiE, u.oneCell' = true := by
  intro u hu
  obtain ⟨w, _, h⟩ := List.mem_flatMap.1 hu
  simp only [wiE, List.mem_cons, List.not_mem_nil, or_false] at h
  rcases h with rfl | rfl | rfl | rfl | rfl <;> rfl
def wiK : List CK := [.int .i64, .int .i64, .int .i64, .int .i64, .int .i64]
theorem wi_fits (w : WireT) : Fits wiK (wiE w) := ⟨⟨_, rfl⟩, ⟨_, rfl⟩, ⟨_, rfl⟩, ⟨_, rfl⟩, ⟨_, rfl⟩, trivial⟩
theorem wiE_inj {v w : WireT} (h : wiE v = wiE w) : v = w := by
  obtain ⟨a, b, c, d, e⟩ := v
  obtain ⟨a', b', c', d', e'⟩ := w
  simp only [wiE, List.cons.injEq, Value.int.injEq, true_and, and_true] at h
  obtain ⟨rfl, rfl, rfl, rfl, rfl⟩ := h
  rfl
end
section
attribute [local irreducible] J JL JE JM LS Y Fc RV Code.wp wpList Code.wpIn wpListIn
attribute [local irreducible] Yc
variable (E : World)
theorem cut_spec (p : Option Addr) (n c m : Nat) (ws : List WireT) (l : List HProp) (hn : ws.length = n) (hm : m = min n 120) (hin : InL l p n c (ws.flatMap wiE)) :
    Fc prog E 12 [.slice p n c].toArray l (fun v l' => ∃ (a : Option Addr) (c' : Nat), m + 1 ≤ c' ∧ v = .slice a m c' ∧ l' = own 38 5 (.slice a (m + 1) c') (m + 1) ((ws.take m).flatMap wiE ++ wiE wi77) :: l) := by
  refine Fc.post ?_
  refine Fc.of_body (c := ?codeC) Tryd.func12 ?hb Tryd.ntmps12 ?hl ?_
  case hb => exact rfl
  case hl => exact rfl
  refine J.seq ?_
  refine J.region ?_
  refine JL.step (y_assign rfl) rfl rfl rfl ?_
  refine JL.nil ?_
  refine JE.then_normal ?_
  refine J.seq ?_
  obtain ⟨gb, ob, hp0, hpt⟩ := hin.part (lo := 0) (hi := m) (k := 5) (Nat.zero_le _) (by omega) (by rw [wis_len, hn])
  have hle := hin.le
  refine J.region ?_
  refine JL.step (y_move rfl) rfl rfl rfl (JL.step (y_move rfl) rfl rfl rfl (JL.step (y_len_slice hT rfl rfl rfl) rfl rfl rfl ?_))
  refine JL.step (v := .int .i64 (m : Int)) (y_min2 rfl rfl (by omega)) rfl rfl rfl ?_
  refine JL.step (y_slice (lo := 0) (hi := m) hT rfl rfl rfl rfl (.inl ⟨rfl, rfl⟩) (.inr ⟨_, _, _, rfl, rfl, rfl⟩) (by omega) (by omega) hin.le hp0) rfl rfl rfl ?_
  refine JL.step (y_assign rfl) rfl rfl rfl ?_
  refine JL.nil ?_
  refine JE.then_normal ?_
  refine J.seq ?_
  obtain ⟨q, hq⟩ : ∃ q, (if c = 0 then p else some ⟨gb, ob + 0 * i38.size, none⟩) = q := ⟨_, rfl⟩
  obtain ⟨c2, hc2⟩ : ∃ c2, c - 0 = c2 := ⟨_, rfl⟩
  have e0 : ((ws.flatMap wiE).drop (0 * 5)).take ((m - 0) * 5) = (ws.take m).flatMap wiE := by rw [Nat.zero_mul, List.drop_zero, Nat.sub_zero, seg_take fun x _ => wiE_length x]
  have hxm : (ws.take m).length = m := by rw [List.length_take]; omega
  rw [e0, Nat.sub_zero, hc2] at hpt
  rw [Nat.sub_zero, hc2]
  have hin2 : InL l q m c2 ((ws.take m).flatMap wiE) := by rw [← hq]; exact hpt
  rw [hq]
  obtain ⟨zs, hzs⟩ : ∃ zs, ws.take m = zs := ⟨_, rfl⟩
  rw [hzs] at hin2 hxm ⊢
  refine J.region ?_
  refine JL.step (y_move rfl) rfl rfl rfl (JL.step (y_len_slice hT rfl rfl rfl) rfl rfl rfl ?_)
  refine JL.step (y_add rfl rfl (by (first | exact wrap_i64 (by omega) (by omega) | rfl))) rfl rfl rfl ?_
  refine JL.loud rfl (l_makeSlice hT rfl rfl rfl rfl rfl rfl (by omega) (by omega) (mk_fits rfl (by omega) (by omega)) (by omega) rfl (fun b3 => ?_))
  refine JL.step (y_move rfl) rfl rfl rfl ?_
  refine JL.pre (l' := own 38 5 (.slice (some ⟨b3, 0, none⟩) 0 (m + 2)) 0 [] :: l) (fun w s => s.own_row (Nat.zero_le _) (by unfold maxLen; omega) (by
    show (madeCells _ (((m : Int) + 2).toNat * 5)).toList.length = _
    rw [Array.length_toList, size_madeCells]
    · omega) (by simp) (by simp)) ?_
  refine JL.loud rfl (l_appendIn hT rfl rfl rfl rfl rfl rfl rfl rfl (by (repeat (first | exact Pick.head | apply Pick.tail | apply Pick.app))) (hin2.cons _) (by rw [show i38.size = 5 from rfl, wis_len, hxm]) (wis_one zs) (by rw [show i38.bytes = 40 from rfl]; omega) (by omega) rfl (fun a5 c5 hc5 => ?_))
  refine JL.step (y_build (cs := [_, _, _, _, _]) hT rfl rfl rfl rfl rfl rfl ⟨⟨(by (first | rfl | assumption | (simp; done) | omega)), Nat.le_of_ble_eq_true rfl⟩, trivial⟩ rfl) rfl rfl rfl ?_
  refine JL.loud rfl (l_buildSliceP hT rfl rfl rfl rfl rfl rfl rfl (by (first | exact fill_one rfl (by first | assumption | rfl | (simp; done)) | rfl | simp)) rfl (fun b1 => ?_))
  refine JL.loud rfl (l_append hT rfl rfl rfl rfl rfl rfl rfl rfl (by (repeat (first | exact Pick.head | apply Pick.tail | apply Pick.app))) (by (first | exact RdN.rowAll (by (repeat (first | exact Pick.head | apply Pick.tail | apply Pick.app))) | exact RdN.own (by (repeat (first | exact Pick.head | apply Pick.tail | apply Pick.app))))) (by (first | rfl | assumption | (simp; done) | omega)) (wis_one [wi77]) (by rw [show i38.bytes = 40 from rfl]; omega) (by omega) rfl (fun a8 c8 hc8 => ?_))
  refine JL.step (y_move rfl) rfl rfl rfl (JL.step (y_len_slice hT rfl rfl rfl) rfl rfl rfl ?_)
  refine JL.fact (fun w s => Sat.own_at (s.pick Pick.head)) fun oo => ?_
  refine JL.step (y_cutTo hT rfl rfl rfl rfl rfl rfl (by omega) (oo.inl (e := 38) (size := 5) (l := [_]) Pick.head)) rfl rfl rfl ?_
  refine JL.step (y_assign rfl) rfl rfl rfl ?_
  refine JL.nil ?_
  refine JE.then_normal ?_
  refine J.ret ?_
  refine JE.ret1 (.inl rfl) rfl rfl (by (first | exact RV.tmp rfl | exact RV.cell1 hT rfl rfl rfl (by (exact Rd1.row (by (repeat (first | exact Pick.head | apply Pick.tail | apply Pick.app))) (by rfl))) | exact RV.cellN hT rfl rfl rfl (by (first | exact RdN.rowAll (by (repeat (first | exact Pick.head | apply Pick.tail | apply Pick.app))) | exact RdN.own (by (repeat (first | exact Pick.head | apply Pick.tail | apply Pick.app))))) (by (first | rfl | assumption | (simp; done) | omega)))) ?_
  refine ⟨own 38 5 (.slice a8 (m + 1) c8) (m + 1) (zs.flatMap wiE ++ wiE wi77) :: l, fun w h => ?_, a8, c8, by omega, rfl, rfl⟩
  rw [Nat.zero_add] at h
  exact h.sup (by (repeat (first | exact Sup.refl | apply Sup.cons (by (repeat (first | exact Pick.head | apply Pick.tail | apply Pick.app))) | apply Sup.app | apply Sup.skip | apply Sup.skips)))
theorem kept_spec (a q : Option Addr) (m c' c2 : Nat) (ws : List WireT) (l : List HProp) (hm : ws.length = m) (hm8 : m ≤ 1000000) (hcap : m + 1 ≤ c') (hin : InL l q m c2 (ws.flatMap wiE)) (hown : InL l a (m + 1) c' (ws.flatMap wiE ++ wiE wi77)) :
    Fc prog E 17 [.slice a m c', .slice q m c2].toArray l (fun v l' => v = .bool true ∧ l' = l) := by
  refine Fc.eqs ?_
  have ha := hown.cutTo m (m * 5) (by omega)
  rw [List.take_left' (by rw [wis_len, hm])] at ha
  refine Fc.of_body (c := ?codeC) Tryd.func17 ?hb Tryd.ntmps17 ?hl ?_
  case hb => exact rfl
  case hl => exact rfl
  refine J.seq ?_
  refine J.region ?_
  refine JL.step (y_assign rfl) rfl rfl rfl ?_
  refine JL.nil ?_
  refine JE.then_normal ?_
  refine J.seq ?_
  refine J.seq ?_
  refine J.region ?_
  refine JL.step (y_move rfl) rfl rfl rfl (JL.step (y_len_slice hT rfl rfl rfl) rfl rfl rfl (JL.step (y_move rfl) rfl rfl rfl ?_))
  refine JL.nil ?_
  refine JE.then_normal ?_
  refine J.block ?_
  refine J.loop (α := Nat) (fun i => i ≤ m) (fun i => [(0, .slice a m c'), (1, .slice q m c2), (7, .int .i64 m), (8, .int .i64 i)]) (fun _ => l) (fun i => m - i) 0 (Nat.zero_le _) ⟨rfl, rfl, rfl, rfl, trivial⟩ (fun w h => h) ?_
  intro i hi
  try dsimp only
  refine J.seq ?_
  refine J.region ?_
  refine JL.step (y_lss rfl rfl) rfl rfl rfl ?_
  refine JL.nil ?_
  refine JE.then_normal ?_
  refine J.seq ?_
  first | apply J.cond_dec rfl | apply J.cond rfl
  case' ht =>
    intro h
    try (first | (exfalso; omega) | (cases h; done) | (exfalso; simp at h; done) | subst h)
    all_goals
      refine J.skip ?_
  case' hf =>
    intro h
    try (first | (exfalso; omega) | (cases h; done) | (exfalso; simp at h; done) | subst h)
    all_goals
      refine J.exit ?_
      refine JE.then_exit ?_
      refine JE.then_exit ?_
      refine JE.block_exit ?_
      refine JE.then_normal ?_
      refine J.seq ?_
      obtain ⟨g, o, rfl, hr⟩ := hown.addr (by omega)
      refine J.region ?_
      refine JL.step (y_move rfl) rfl rfl rfl (JL.step (y_len_slice hT rfl rfl rfl) rfl rfl rfl (JL.step (y_move rfl) rfl rfl rfl (JL.step (y_len_slice hT rfl rfl rfl) rfl rfl rfl (JL.step (y_eql rfl rfl) rfl rfl rfl (JL.step (y_move rfl) rfl rfl rfl ?_)))))
      all_goals (first | (refine JL.gsplit_dec rfl rfl rfl (fun h => ?_) (fun h => ?_) <;> try (first | (exfalso; omega) | exact absurd rfl h)) | (refine JL.gsplit rfl rfl rfl (fun h => ?_) (fun h => ?_) <;> try (first | cases h | (exfalso; simp at h; done))) | skip)
      all_goals (first | refine JL.gskip rfl rfl rfl rfl rfl rfl ?_ | refine JL.gskipU rfl rfl rfl rfl rfl ?_ | refine JL.gstep rfl rfl rfl (y_move rfl) rfl rfl ?_)
      all_goals (first | refine JL.gskip rfl rfl rfl rfl rfl rfl ?_ | refine JL.gskipU rfl rfl rfl rfl rfl ?_ | refine JL.gstep rfl rfl rfl (y_move rfl) rfl rfl ?_)
      all_goals (first | refine JL.gskip rfl rfl rfl rfl rfl rfl ?_ | refine JL.gskipU rfl rfl rfl rfl rfl ?_ | refine JL.gstep rfl rfl rfl (y_len_slice hT rfl rfl rfl) rfl rfl ?_)
      all_goals (first | refine JL.gskip rfl rfl rfl rfl rfl rfl ?_ | refine JL.gskipU rfl rfl rfl rfl rfl ?_ | refine JL.gstep rfl rfl rfl (y_add rfl rfl (by (first | exact wrap_i64 (by omega) (by omega) | rfl))) rfl rfl ?_)
      all_goals (first | refine JL.gskip rfl rfl rfl rfl rfl rfl ?_ | refine JL.gskipU rfl rfl rfl rfl rfl ?_ | refine JL.gstep rfl rfl rfl (v := .slice (some ⟨g, o, none⟩) (m + 1) c') (Y.cast (y_slice (lo := 0) (hi := m + 1) hT rfl rfl rfl rfl (.inl ⟨rfl, rfl⟩) (.inr ⟨_, _, _, rfl, rfl, rfl⟩) (by omega) (by omega) (by omega) (.inl rfl)) (by rw [if_neg (by omega)]; simp)) rfl rfl ?_)
      all_goals (first | refine JL.gskip rfl rfl rfl rfl rfl rfl ?_ | refine JL.gskipU rfl rfl rfl rfl rfl ?_ | refine JL.gstep rfl rfl rfl (y_move rfl) rfl rfl ?_)
      all_goals (first | refine JL.gskip rfl rfl rfl rfl rfl rfl ?_ | refine JL.gskipU rfl rfl rfl rfl rfl ?_ | refine JL.gstep rfl rfl rfl (y_len_slice hT rfl rfl rfl) rfl rfl ?_)
      all_goals (first | refine JL.gskip rfl rfl rfl rfl rfl rfl ?_ | refine JL.gskipU rfl rfl rfl rfl rfl ?_ | refine JL.gstep rfl rfl rfl (y_indexAddr_slice hT rfl rfl rfl rfl rfl (by (first | omega | exact Nat.le_of_ble_eq_true rfl | decide | (simp; omega))) (by (first | omega | exact Nat.le_of_ble_eq_true rfl | decide | (simp; omega)))) rfl rfl ?_)
      all_goals (first | refine JL.gskip rfl rfl rfl rfl rfl rfl ?_ | refine JL.gskipU rfl rfl rfl rfl rfl ?_ | refine JL.gstep rfl rfl rfl (y_fieldAddr hT rfl rfl rfl rfl rfl rfl) rfl rfl ?_)
      all_goals (first | refine JL.gskip rfl rfl rfl rfl rfl rfl ?_ | refine JL.gskipU rfl rfl rfl rfl rfl ?_ | refine JL.gstep rfl rfl rfl (y_load1 hT rfl rfl rfl (Rd1.ofN (v := .int .i64 77) (j := m * 5) (hr []) (by rw [List.getElem?_append_right (by rw [wis_len, hm]; omega), wis_len, hm, Nat.sub_self]; rfl))) rfl rfl ?_)
      all_goals (first | refine JL.gskip rfl rfl rfl rfl rfl rfl ?_ | refine JL.gskipU rfl rfl rfl rfl rfl ?_ | refine JL.gstep rfl rfl rfl (y_eql rfl rfl) rfl rfl ?_)
      all_goals (refine JL.step (y_pick rfl rfl rfl) rfl rfl rfl ?_)
      all_goals (refine JL.step (y_assign rfl) rfl rfl rfl ?_)
      all_goals refine JL.nil ?_
      all_goals refine JE.then_normal ?_
      all_goals
        refine J.ret ?_
        refine JE.ret1 (.inl rfl) rfl rfl (by (first | exact RV.tmp rfl | exact RV.cell1 hT rfl rfl rfl (by (exact Rd1.row (by (repeat (first | exact Pick.head | apply Pick.tail | apply Pick.app))) (by rfl))) | exact RV.cellN hT rfl rfl rfl (by (first | exact RdN.rowAll (by (repeat (first | exact Pick.head | apply Pick.tail | apply Pick.app))) | exact RdN.own (by (repeat (first | exact Pick.head | apply Pick.tail | apply Pick.app))))) (by (first | rfl | assumption | (simp; done) | omega)))) ?_
        exact ⟨rfl, fun w h => h⟩
  all_goals refine JE.then_normal ?_
  all_goals
    refine J.seq ?_
    refine J.block ?_
    refine J.seq ?_
    refine J.region ?_
    refine JL.step (y_move rfl) rfl rfl rfl (JL.step (y_assign rfl) rfl rfl rfl ?_)
    refine JL.nil ?_
    refine JE.then_normal ?_
    refine J.seq ?_
    obtain ⟨x, hh⟩ : ∃ x, ws[i]? = some x := ⟨ws[i]'(by omega), List.getElem?_eq_getElem _⟩
    obtain ⟨g1, o1, rfl, hr1⟩ := ha.addr (by omega)
    obtain ⟨g2, o2, rfl, hr2⟩ := hin.addr (by omega)
    refine J.draw _ _ [(0, .q), (1, .q), (2, .q), (3, .q), (4, .q), (5, .q), (6, .q), (7, .q), (8, .q)] mixed (by kernel_rfl) (Split.nil) ?_
    refine JM.quiet rfl rfl rfl rfl (fun m => y_move rfl) ?_
    refine JM.quiet rfl rfl rfl rfl (fun m => y_move rfl) ?_
    refine JM.quiet rfl rfl rfl rfl (fun m => y_indexAddr_slice hT rfl rfl rfl rfl rfl (by (first | omega | exact Nat.le_of_ble_eq_true rfl | decide | (simp; omega))) (by (first | omega | exact Nat.le_of_ble_eq_true rfl | decide | (simp; omega)))) ?_
    refine JM.quiet rfl rfl rfl rfl (fun m => y_loadN hT rfl rfl rfl (RdN.elem ((hr1 []).app m) (fun x _ => wiE_length x) hh) rfl) ?_
    refine JM.quiet rfl rfl rfl rfl (fun m => y_move rfl) ?_
    refine JM.quiet rfl rfl rfl rfl (fun m => y_move rfl) ?_
    refine JM.quiet rfl rfl rfl rfl (fun m => y_indexAddr_slice hT rfl rfl rfl rfl rfl (by (first | omega | exact Nat.le_of_ble_eq_true rfl | decide | (simp; omega))) (by (first | omega | exact Nat.le_of_ble_eq_true rfl | decide | (simp; omega)))) ?_
    refine JM.quiet rfl rfl rfl rfl (fun m => y_loadN hT rfl rfl rfl (RdN.elem ((hr2 []).app m) (fun x _ => wiE_length x) hh) rfl) ?_
    refine JM.quiet rfl rfl rfl rfl (fun m => y_flat_ne (m := 3) (ks := wiK) (xs := wiE x) (ys := wiE x) (b := false) hT (by kernel_rfl) rfl (by kernel_rfl) (by kernel_rfl) rfl rfl rfl rfl (wi_fits x) (wi_fits x) ⟨fun q => (by cases q), fun q => absurd rfl q⟩) ?_
    refine JM.nil ?_
    refine JE.then_normal ?_
    refine J.cond_f rfl (by (first | rfl | assumption | (simp; done) | (simp; omega))) ?_
    refine J.skip ?_
    refine JE.block_normal ?_
    refine JE.then_normal ?_
    refine J.region ?_
    refine JL.step (y_add rfl rfl (by (first | exact wrap_i64 (by omega) (by omega) | rfl))) rfl rfl rfl ?_
    refine JL.step (y_move rfl) rfl rfl rfl ?_
    refine JL.nil ?_
  all_goals
    exact JE.round (s := i) (i + 1) (by omega) ⟨rfl, rfl, rfl, rfl, trivial⟩ (fun w h => h) (by omega)
end
end
end Go.Proofs.YtfohdnclpbipeaaDoor
