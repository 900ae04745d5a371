import Derived.Test.YtfohdnclpbipeaaDoorJoin1
import Derived.Test.YtfohdnclpbipeaaDoorJoin2
import Derived.Test.YtfohdnclpbipeaaDoorJoin4
import Derived.Test.YtfohdnclpbipeaaDoorJoin6
import Derived.Test.YtfohdnclpbipeaaDoorJoin7
namespace Go.Proofs.YtfohdnclpbipeaaDoor
section
open Go Go.SL
section
attribute [local irreducible] J JL JE JM LS Y Fc RV Code.wp wpList Code.wpIn wpListIn
attribute [local irreducible] Yc
attribute [local irreducible] Sort.ltInt
variable (E : World)
theorem pinsI (g c n a b : Nat) (ia ib : Int) (d : Array Int) (sp : List Value) (r : List HProp) (ea : ia = a) (eb : ib = b) (hn : d.size = n) (hab : a < b) (hb : b ≤ n) (h63 : n < 4611686018427387904) :
 Fc prog E 111 [.slice (some ⟨g, 0, none⟩) n c, .int .i64 ia, .int .i64 ib].toArray (arI g d sp :: r) (fun v l' => v = .bool (Sort.partialInsertionSort Sort.ltInt d a b).2 ∧ l' = arI g (Sort.partialInsertionSort Sort.ltInt d a b).1 sp :: r) := by
 refine Fc.eqs ?_
 subst ea eb
 generalize hres : Sort.partialInsertionSort Sort.ltInt d a b = res
 have hres : Sort.partialIns Sort.ltInt a b 5 (a + 1) d = res := hres
 refine Fc.of_body (c := ?codeC) Tryd.func111 ?hb Tryd.ntmps111 ?hl ?_
 case hb => exact rfl
 case hl => exact rfl
 refine J.seq (J.region (JL.step (y_assign rfl) rfl rfl rfl ?_))
 refine JL.nil (JE.then_normal (J.seq (J.region (JL.step (y_move rfl) rfl rfl rfl ?_))))
 refine JL.step (y_add rfl rfl (by (first | exact wrap_i64 (by omega) (by omega) | rfl))) rfl rfl rfl ?_
 refine JL.step (y_assign rfl) rfl rfl rfl ?_
 refine JL.nil (JE.then_normal (J.seq (J.seq (J.region (JL.step (y_assign rfl) rfl rfl rfl ?_)))))
 refine JL.nil (JE.then_normal (J.block ?_))
 refine J.loop (α := Nat × Nat × Array Int) (fun s => s.1 ≤ 5 ∧ a + 1 ≤ s.2.1 ∧ s.2.1 ≤ b ∧ s.2.2.size = n ∧ Sort.partialIns Sort.ltInt a b s.1 s.2.1 s.2.2 = res) (fun s => [(0, .slice (some ⟨g, 0, none⟩) n c), (1, .int .i64 a), (2, .int .i64 b), (7, .int .i64 s.2.1), (8, .int .i64 (5 - (s.1 : Int)))]) (fun s => arI g s.2.2 sp :: r) (fun s => s.1) (5, a + 1, d) ⟨Nat.le_refl _, Nat.le_refl _, by dsimp only; omega, hn, hres⟩ ⟨rfl, rfl, rfl, (congrArg (fun z => some (Value.int .i64 z)) (by first | omega | (dsimp only; omega))), rfl, trivial⟩ (fun w h => h) ?_
 rintro ⟨s, i, d1⟩ ⟨hs5, hi1, hi2, hs1, he1⟩
 try dsimp only at hs5 hi1 hi2 hs1 he1 ⊢
 refine J.seq (J.seq (J.region (JL.step (y_move rfl) rfl rfl rfl (JL.step (y_lss rfl rfl) rfl rfl rfl ?_))))
 refine JL.nil (JE.then_normal ?_)
 first | apply J.cond_dec rfl | apply J.cond rfl
 case' ht =>
  intro h
  try (first | (exfalso; omega) | (cases h; done) | (exfalso; simp at h; done) | subst h)
  all_goals
   obtain ⟨k, hk⟩ : ∃ k, s = k + 1 := ⟨s - 1, by omega⟩
   rw [hk, Sort.partialIns_succ] at he1
   refine J.skip ?_
 case' hf =>
  intro h
  try (first | (exfalso; omega) | (cases h; done) | (exfalso; simp at h; done) | subst h)
  all_goals
   obtain rfl : s = 0 := by omega
   have he1 : (d1, false) = res := he1
   refine J.exit (JE.then_exit (JE.then_exit (JE.block_exit (JE.then_normal (J.seq (J.region (JL.step (y_assign rfl) rfl rfl rfl ?_)))))))
   refine JL.nil (JE.then_normal (J.ret ?_))
   refine JE.ret1 (.inl rfl) rfl rfl (by (first | exact RV.tmp rfl | exact RV.cell1 hT rfl rfl rfl (by (exact Rd1.row (by (repeat (first | exact Pick.head | apply Pick.tail | apply Pick.app))) (by rfl))) | exact RV.cellN hT rfl rfl rfl (by (first | exact RdN.rowAll (by (repeat (first | exact Pick.head | apply Pick.tail | apply Pick.app))) | exact RdN.own (by (repeat (first | exact Pick.head | apply Pick.tail | apply Pick.app))))) (by (first | rfl | assumption | (simp; done) | omega)))) ?_
   exact ⟨by rw [← he1], fun w h => by rw [← he1]; exact h⟩
 all_goals refine JE.then_normal ?_
 all_goals
  refine J.seqK (α := Nat × Array Int) (fun q => a + 1 ≤ q.1 ∧ q.1 ≤ b ∧ q.2.size = n ∧ ∃ k, s = k + 1 ∧ Sort.partialIns Sort.ltInt a b k q.1 q.2 = res) (fun q => [(0, .slice (some ⟨g, 0, none⟩) n c), (1, .int .i64 a), (2, .int .i64 b), (7, .int .i64 q.1), (8, .int .i64 (5 - (s : Int)))]) (fun q => arI g q.2 sp :: r) ?hj4 (fun hk4 => ?hf4)
  case hf4 =>
   refine J.block (J.seq (J.block ?_))
   refine J.loop (α := Nat) (fun x => i ≤ x ∧ x ≤ b ∧ Sort.scanSorted Sort.ltInt d1 b x = Sort.scanSorted Sort.ltInt d1 b i) (fun x => [(0, .slice (some ⟨g, 0, none⟩) n c), (1, .int .i64 a), (2, .int .i64 b), (7, .int .i64 x), (8, .int .i64 (5 - (s : Int)))]) (fun x => arI g d1 sp :: r) (fun x => b - x) i ⟨Nat.le_refl _, hi2, rfl⟩ ⟨rfl, rfl, rfl, rfl, rfl, trivial⟩ (fun w h => h) ?_
   rintro x ⟨hx1, hx2, hx3⟩
   try dsimp only at hx1 hx2 hx3 ⊢
   refine J.seq (J.seq ?_)
   by_cases hg : x < b
   all_goals
    refine J.draw _ _ [(0, .q), (1, .q), (2, .q), (3, .q), (4, .q), (5, .q), (6, .q), (7, .q), (8, .q), (9, .q), (10, .q), (11, .q), (12, .q), (13, .q), (14, .q), (15, .q)] mixed (by kernel_rfl) (Split.nil) ?_
    refine JM.quiet rfl rfl rfl rfl (fun m => y_move rfl) (JM.quiet rfl rfl rfl rfl (fun m => y_move rfl) ?_)
    first | refine JM.quiet rfl rfl rfl rfl (fun m => y_lssB rfl rfl (decide_eq_true (by omega))) ?_ | refine JM.quiet rfl rfl rfl rfl (fun m => y_lssB rfl rfl (decide_eq_false (by omega))) ?_
    refine JM.quiet rfl rfl rfl rfl (fun m => y_move rfl) ?_
    all_goals (first | refine JM.gskip rfl rfl rfl rfl rfl rfl rfl ?_ | refine JM.gskipU rfl rfl rfl rfl rfl rfl ?_ | refine JM.gquiet rfl rfl rfl rfl rfl rfl (fun m => y_move rfl) ?_)
    all_goals (first | refine JM.gskip rfl rfl rfl rfl rfl rfl rfl ?_ | refine JM.gskipU rfl rfl rfl rfl rfl rfl ?_ | refine JM.gquiet rfl rfl rfl rfl rfl rfl (fun m => y_move rfl) ?_)
    all_goals (first | refine JM.gskip rfl rfl rfl rfl rfl rfl rfl ?_ | refine JM.gskipU rfl rfl rfl rfl rfl rfl ?_ | refine JM.gquiet rfl rfl rfl rfl rfl rfl (fun m => y_indexAddr_slice hT rfl rfl rfl rfl rfl (by (first | omega | exact Nat.le_of_ble_eq_true rfl | decide | (simp; omega))) (by (first | omega | exact Nat.le_of_ble_eq_true rfl | decide | (simp; omega)))) ?_)
    all_goals (first | refine JM.gskip rfl rfl rfl rfl rfl rfl rfl ?_ | refine JM.gskipU rfl rfl rfl rfl rfl rfl ?_ | refine JM.gquiet rfl rfl rfl rfl rfl rfl (fun m => y_load1 hT rfl rfl rfl (Rd1.arr (i := (x)) (Pick.app m (by (repeat (first | exact Pick.head | apply Pick.tail | apply Pick.app)))) (by (first | assumption | omega | (simp only [Array.size_setIfInBounds]; omega))) (by exact arr_off rfl (by omega)))) ?_)
    all_goals (first | refine JM.gskip rfl rfl rfl rfl rfl rfl rfl ?_ | refine JM.gskipU rfl rfl rfl rfl rfl rfl ?_ | refine JM.gquiet rfl rfl rfl rfl rfl rfl (fun m => y_move rfl) ?_)
    all_goals (first | refine JM.gskip rfl rfl rfl rfl rfl rfl rfl ?_ | refine JM.gskipU rfl rfl rfl rfl rfl rfl ?_ | refine JM.gquiet rfl rfl rfl rfl rfl rfl (fun m => y_move rfl) ?_)
    all_goals (first | refine JM.gskip rfl rfl rfl rfl rfl rfl rfl ?_ | refine JM.gskipU rfl rfl rfl rfl rfl rfl ?_ | refine JM.gquiet rfl rfl rfl rfl rfl rfl (fun m => y_sub rfl rfl (by (first | exact wrap_i64 (by omega) (by omega) | rfl))) ?_)
    all_goals (first | refine JM.gskip rfl rfl rfl rfl rfl rfl rfl ?_ | refine JM.gskipU rfl rfl rfl rfl rfl rfl ?_ | refine JM.gquiet rfl rfl rfl rfl rfl rfl (fun m => y_indexAddr_slice hT rfl rfl rfl rfl rfl (by (first | omega | exact Nat.le_of_ble_eq_true rfl | decide | (simp; omega))) (by (first | omega | exact Nat.le_of_ble_eq_true rfl | decide | (simp; omega)))) ?_)
    all_goals (first | refine JM.gskip rfl rfl rfl rfl rfl rfl rfl ?_ | refine JM.gskipU rfl rfl rfl rfl rfl rfl ?_ | refine JM.gquiet rfl rfl rfl rfl rfl rfl (fun m => y_load1 hT rfl rfl rfl (Rd1.arr (i := (x - 1)) (Pick.app m (by (repeat (first | exact Pick.head | apply Pick.tail | apply Pick.app)))) (by (first | assumption | omega | (simp only [Array.size_setIfInBounds]; omega))) (by exact arr_off rfl (by omega)))) ?_)
    all_goals (first | refine JM.gskip rfl rfl rfl rfl rfl rfl rfl ?_ | refine JM.gskipU rfl rfl rfl rfl rfl rfl ?_ | refine JM.gquiet rfl rfl rfl rfl rfl rfl (fun m => y_callF e112 rfl (lessI E _ _ _)) ?_)
    all_goals (first | refine JM.gskip rfl rfl rfl rfl rfl rfl rfl ?_ | refine JM.gskipU rfl rfl rfl rfl rfl rfl ?_ | refine JM.gquiet rfl rfl rfl rfl rfl rfl (fun m => y_not rfl) ?_)
    all_goals refine JM.quiet rfl rfl rfl rfl (fun m => y_pick rfl rfl rfl) ?_
    all_goals refine JM.nil ?_
   all_goals refine JE.then_normal ?_
   all_goals
    first | apply J.cond_dec rfl | apply J.cond rfl
    case' ht =>
     intro h
     try (first | (exfalso; omega) | (cases h; done) | (exfalso; simp at h; done) | subst h)
     all_goals
      rw [scanSorted_go (by omega) (by simpa using h)] at hx3
      refine J.skip ?_
    case' hf =>
     intro h
     try (first | (exfalso; omega) | (cases h; done) | (exfalso; simp at h; done) | subst h)
     all_goals
      rw [scanSorted_stop (by first | exact .inl (by omega) | exact .inr (by simpa using h))] at hx3
      rw [← hx3] at he1
      refine J.exit (JE.then_exit (JE.then_exit (JE.block_exit (JE.then_normal (J.seq (J.seq (J.region (JL.step (y_move rfl) rfl rfl rfl (JL.step (y_move rfl) rfl rfl rfl (JL.step (y_eql rfl rfl) rfl rfl rfl ?_))))))))))
      refine JL.nil (JE.then_normal ?_)
      first | apply J.cond_dec rfl | apply J.cond rfl
      case' ht =>
       intro h
       try (first | (exfalso; omega) | (cases h; done) | (exfalso; simp at h; done) | subst h)
       all_goals
        rw [if_pos (by omega)] at he1
        refine J.seq (J.region (JL.step (y_assign rfl) rfl rfl rfl ?_))
        refine JL.nil (JE.then_normal (J.ret (JE.then_ret (JE.block_ret (JE.then_ret (JE.then_ret (JE.block_ret (JE.then_ret ?_))))))))
        refine JE.ret1 (.inl rfl) rfl rfl (by (first | exact RV.tmp rfl | exact RV.cell1 hT rfl rfl rfl (by (exact Rd1.row (by (repeat (first | exact Pick.head | apply Pick.tail | apply Pick.app))) (by rfl))) | exact RV.cellN hT rfl rfl rfl (by (first | exact RdN.rowAll (by (repeat (first | exact Pick.head | apply Pick.tail | apply Pick.app))) | exact RdN.own (by (repeat (first | exact Pick.head | apply Pick.tail | apply Pick.app))))) (by (first | rfl | assumption | (simp; done) | omega)))) ?_
        exact ⟨by rw [← he1], fun w h => by rw [← he1]; exact h⟩
      case' hf =>
       intro h
       try (first | (exfalso; omega) | (cases h; done) | (exfalso; simp at h; done) | subst h)
       all_goals
        rw [if_neg (by omega)] at he1
        refine J.skip ?_
      all_goals refine JE.then_normal ?_
      all_goals
       refine J.seq (J.seq (J.region (JL.step (y_move rfl) rfl rfl rfl (JL.step (y_move rfl) rfl rfl rfl ?_))))
       refine JL.step (y_sub rfl rfl (by (first | exact wrap_i64 (by omega) (by omega) | rfl))) rfl rfl rfl ?_
       refine JL.step (y_lss rfl rfl) rfl rfl rfl ?_
       refine JL.nil (JE.then_normal ?_)
       first | apply J.cond_dec rfl | apply J.cond rfl
       case' ht =>
        intro h
        try (first | (exfalso; omega) | (cases h; done) | (exfalso; simp at h; done) | subst h)
        all_goals
         rw [if_pos (by omega)] at he1
         refine J.seq (J.region (JL.step (y_assign rfl) rfl rfl rfl ?_))
         refine JL.nil (JE.then_normal (J.ret (JE.then_ret (JE.block_ret (JE.then_ret (JE.then_ret (JE.block_ret (JE.then_ret ?_))))))))
         refine JE.ret1 (.inl rfl) rfl rfl (by (first | exact RV.tmp rfl | exact RV.cell1 hT rfl rfl rfl (by (exact Rd1.row (by (repeat (first | exact Pick.head | apply Pick.tail | apply Pick.app))) (by rfl))) | exact RV.cellN hT rfl rfl rfl (by (first | exact RdN.rowAll (by (repeat (first | exact Pick.head | apply Pick.tail | apply Pick.app))) | exact RdN.own (by (repeat (first | exact Pick.head | apply Pick.tail | apply Pick.app))))) (by (first | rfl | assumption | (simp; done) | omega)))) ?_
         exact ⟨by rw [← he1], fun w h => by rw [← he1]; exact h⟩
       case' hf =>
        intro h
        try (first | (exfalso; omega) | (cases h; done) | (exfalso; simp at h; done) | subst h)
        all_goals
         rw [if_neg (by omega)] at he1
         refine J.skip ?_
       all_goals refine JE.then_normal ?_
       all_goals
        refine J.seq ?_
        refine J.draw _ _ [(0, .q), (1, .q), (2, .q), (3, .q), (4, .q), (5, .q), (6, .q), (7, .q), (8, .q), (10, .q), (11, .q), (12, .q), (9, .e), (13, .e), (14, .q), (15, .l), (16, .q), (17, .l)] mixed (by kernel_rfl) (Split.cons (Pick.head) (Split.nil)) ?_
        refine JM.quiet rfl rfl rfl rfl (fun m => y_move rfl) (JM.quiet rfl rfl rfl rfl (fun m => y_move rfl) (JM.quiet rfl rfl rfl rfl (fun m => y_move rfl) (JM.quiet rfl rfl rfl rfl (fun m => y_move rfl) ?_)))
        refine JM.quiet rfl rfl rfl rfl (fun m => y_sub rfl rfl (by (first | exact wrap_i64 (by omega) (by omega) | rfl))) ?_
        refine JM.quiet rfl rfl rfl rfl (fun m => y_move rfl) (JM.quiet rfl rfl rfl rfl (fun m => y_move rfl) ?_)
        refine JM.quiet rfl rfl rfl rfl (fun m => y_sub rfl rfl (by (first | exact wrap_i64 (by omega) (by omega) | rfl))) ?_
        refine JM.quiet rfl rfl rfl rfl (fun m => y_indexAddr_slice hT rfl rfl rfl rfl rfl (by (first | omega | exact Nat.le_of_ble_eq_true rfl | decide | (simp; omega))) (by (first | omega | exact Nat.le_of_ble_eq_true rfl | decide | (simp; omega)))) ?_
        refine JM.quiet rfl rfl rfl rfl (fun m => y_move rfl) (JM.quiet rfl rfl rfl rfl (fun m => y_move rfl) ?_)
        refine JM.quiet rfl rfl rfl rfl (fun m => y_indexAddr_slice hT rfl rfl rfl rfl rfl (by (first | omega | exact Nat.le_of_ble_eq_true rfl | decide | (simp; omega))) (by (first | omega | exact Nat.le_of_ble_eq_true rfl | decide | (simp; omega)))) ?_
        refine JM.early rfl rfl rfl rfl (fun fr => y_load1 hT rfl rfl rfl (Rd1.arr (i := (x - 1)) (by (repeat (first | exact Pick.head | apply Pick.tail | apply Pick.app))) (by (first | assumption | omega | (simp only [Array.size_setIfInBounds]; omega))) (by exact arr_off rfl (by omega)))) ?_
        refine JM.early rfl rfl rfl rfl (fun fr => y_load1 hT rfl rfl rfl (Rd1.arr (i := (x)) (by (repeat (first | exact Pick.head | apply Pick.tail | apply Pick.app))) (by (first | assumption | omega | (simp only [Array.size_setIfInBounds]; omega))) (by exact arr_off rfl (by omega)))) ?_
        refine JM.quiet rfl rfl rfl rfl (fun m => y_indexAddr_slice hT rfl rfl rfl rfl rfl (by (first | omega | exact Nat.le_of_ble_eq_true rfl | decide | (simp; omega))) (by (first | omega | exact Nat.le_of_ble_eq_true rfl | decide | (simp; omega)))) ?_
        refine JM.loud rfl rfl (fun fr => l_storeArr (j := (x)) (u := d1[x - 1]!) hT rfl rfl rfl rfl (fun _ => rfl) (by (repeat (first | exact Pick.head | apply Pick.tail | apply Pick.app))) (by (first | assumption | omega | (simp only [Array.size_setIfInBounds]; omega))) (by exact arr_off rfl (by omega)) (⟨[_], (by (repeat (first | exact Split.nil | exact Split.all | refine Split.cons Pick.head ?_))), ?_⟩))
        refine JM.quiet rfl rfl rfl rfl (fun m => y_indexAddr_slice hT rfl rfl rfl rfl rfl (by (first | omega | exact Nat.le_of_ble_eq_true rfl | decide | (simp; omega))) (by (first | omega | exact Nat.le_of_ble_eq_true rfl | decide | (simp; omega)))) ?_
        refine JM.loud rfl rfl (fun fr => l_storeArr (j := (x - 1)) (u := d1[x]!) hT rfl rfl rfl rfl (fun _ => rfl) (by (repeat (first | exact Pick.head | apply Pick.tail | apply Pick.app))) (by (first | assumption | omega | (simp only [Array.size_setIfInBounds]; omega))) (by exact arr_off rfl (by omega)) (⟨[_], (by (repeat (first | exact Split.nil | exact Split.all | refine Split.cons Pick.head ?_))), ?_⟩))
        refine JM.nil (JE.then_normal ?_)
        refine J.seqK (α := Nat × Array Int) (fun q => a + 1 ≤ q.1 ∧ q.1 < b ∧ q.2.size = n ∧ ∃ k, s = k + 1 ∧ Sort.partialIns Sort.ltInt a b k q.1 (Sort.fixUp Sort.ltInt b q.1 q.2) = res) (fun q => [(0, .slice (some ⟨g, 0, none⟩) n c), (1, .int .i64 a), (2, .int .i64 b), (7, .int .i64 q.1), (8, .int .i64 (5 - (s : Int)))]) (fun q => arI g q.2 sp :: r) ?hj18 (fun hk18 => ?hf18)
        case hf18 =>
         refine J.seq (J.region (JL.step (y_move rfl) rfl rfl rfl (JL.step (y_move rfl) rfl rfl rfl ?_)))
         refine JL.step (y_sub rfl rfl (by (first | exact wrap_i64 (by omega) (by omega) | rfl))) rfl rfl rfl ?_
         refine JL.step (y_geq rfl rfl) rfl rfl rfl ?_
         refine JL.nil (JE.then_normal ?_)
         first | apply J.cond_dec rfl | apply J.cond rfl
         case' ht =>
          intro h
          try (first | (exfalso; omega) | (cases h; done) | (exfalso; simp at h; done) | subst h)
          all_goals
           have hfd : Sort.fixDown Sort.ltInt a x (Sort.swp d1 x (x - 1)) = Sort.shiftDown Sort.ltInt (x - 1) (Sort.swp d1 x (x - 1)) := if_pos (by omega)
           rw [hfd] at he1
           refine J.seq (J.region (JL.step (y_move rfl) rfl rfl rfl ?_))
           refine JL.step (y_sub rfl rfl (by (first | exact wrap_i64 (by omega) (by omega) | rfl))) rfl rfl rfl ?_
           refine JL.step (y_assign rfl) rfl rfl rfl ?_
           refine JL.nil (JE.then_normal (J.block ?_))
           refine J.loop (α := Nat × Array Int) (fun q => q.1 ≤ x - 1 ∧ q.2.size = n ∧ Sort.shiftDown Sort.ltInt q.1 q.2 = Sort.shiftDown Sort.ltInt (x - 1) (Sort.swp d1 x (x - 1))) (fun q => [(0, .slice (some ⟨g, 0, none⟩) n c), (1, .int .i64 a), (2, .int .i64 b), (7, .int .i64 x), (8, .int .i64 (5 - (s : Int))), (9, .int .i64 q.1)]) (fun q => arI g q.2 sp :: r) (fun q => q.1) (x - 1, Sort.swp d1 x (x - 1)) ⟨Nat.le_refl _, by dsimp only; rw [swp_size]; exact hs1, rfl⟩ ⟨rfl, rfl, rfl, rfl, rfl, (congrArg (fun z => some (Value.int .i64 z)) (by first | omega | (dsimp only; omega))), trivial⟩ (fun w h => h) ?_
           rintro ⟨j, d2⟩ ⟨hj1, hs2, he2⟩
           try dsimp only at hj1 hs2 he2 ⊢
           refine J.seq (J.seq (J.region (JL.step (y_move rfl) rfl rfl rfl (JL.step (y_geq rfl rfl) rfl rfl rfl ?_))))
           refine JL.nil (JE.then_normal ?_)
           first | apply J.cond_dec rfl | apply J.cond rfl
           case' ht =>
            intro h
            try (first | (exfalso; omega) | (cases h; done) | (exfalso; simp at h; done) | subst h)
            all_goals
             refine J.skip ?_
           case' hf =>
            intro h
            try (first | (exfalso; omega) | (cases h; done) | (exfalso; simp at h; done) | subst h)
            all_goals
             rw [shiftDown_stop (.inl (by omega))] at he2
             rw [← he2] at he1
             refine J.exit (JE.then_exit (JE.then_exit (JE.block_exit (JE.then_normal ?_))))
             first | exact J.closeK hk18 (x, d2) ⟨by dsimp only; omega, by dsimp only; omega, hs2, k, hk, he1⟩ ⟨rfl, rfl, rfl, rfl, rfl, trivial⟩ (fun w h => h) | exact J.closeK hk18 (x, Sort.swp d1 x (x - 1)) ⟨by dsimp only; omega, by dsimp only; omega, by dsimp only; rw [swp_size]; exact hs1, k, hk, he1⟩ ⟨rfl, rfl, rfl, rfl, rfl, trivial⟩ (fun w h => h)
           all_goals refine JE.then_normal ?_
           all_goals
            refine J.seq (J.block (J.seq (J.seq ?_)))
            refine J.draw _ _ [(0, .q), (1, .q), (2, .q), (3, .q), (4, .q), (5, .q), (6, .q), (7, .q), (8, .q), (9, .q), (10, .q)] mixed (by kernel_rfl) (Split.nil) ?_
            refine JM.quiet rfl rfl rfl rfl (fun m => y_move rfl) (JM.quiet rfl rfl rfl rfl (fun m => y_move rfl) ?_)
            refine JM.quiet rfl rfl rfl rfl (fun m => y_indexAddr_slice hT rfl rfl rfl rfl rfl (by (first | omega | exact Nat.le_of_ble_eq_true rfl | decide | (simp; omega))) (by (first | omega | exact Nat.le_of_ble_eq_true rfl | decide | (simp; omega)))) ?_
            refine JM.quiet rfl rfl rfl rfl (fun m => y_load1 hT rfl rfl rfl (Rd1.arr (i := (j)) (Pick.app m (by (repeat (first | exact Pick.head | apply Pick.tail | apply Pick.app)))) (by (first | assumption | omega | (simp only [Array.size_setIfInBounds]; omega))) (by exact arr_off rfl (by omega)))) ?_
            refine JM.quiet rfl rfl rfl rfl (fun m => y_move rfl) (JM.quiet rfl rfl rfl rfl (fun m => y_move rfl) ?_)
            refine JM.quiet rfl rfl rfl rfl (fun m => y_sub rfl rfl (by (first | exact wrap_i64 (by omega) (by omega) | rfl))) ?_
            refine JM.quiet rfl rfl rfl rfl (fun m => y_indexAddr_slice hT rfl rfl rfl rfl rfl (by (first | omega | exact Nat.le_of_ble_eq_true rfl | decide | (simp; omega))) (by (first | omega | exact Nat.le_of_ble_eq_true rfl | decide | (simp; omega)))) ?_
            refine JM.quiet rfl rfl rfl rfl (fun m => y_load1 hT rfl rfl rfl (Rd1.arr (i := (j - 1)) (Pick.app m (by (repeat (first | exact Pick.head | apply Pick.tail | apply Pick.app)))) (by (first | assumption | omega | (simp only [Array.size_setIfInBounds]; omega))) (by exact arr_off rfl (by omega)))) ?_
            refine JM.quiet rfl rfl rfl rfl (fun m => y_callF e112 rfl (lessI E _ _ _)) (JM.quiet rfl rfl rfl rfl (fun m => y_not rfl) ?_)
            refine JM.nil (JE.then_normal ?_)
            first | apply J.cond_dec rfl | apply J.cond rfl
            case' ht =>
             intro h
             try (first | (exfalso; omega) | (cases h; done) | (exfalso; simp at h; done) | subst h)
             all_goals
              rw [shiftDown_stop (.inr (by simpa using h))] at he2
              rw [← he2] at he1
              refine J.exit (JE.then_exit ?_)
              refine JE.block_past rfl ?_
              refine JE.then_exit (JE.then_exit (JE.block_exit (JE.then_normal ?_)))
              first | exact J.closeK hk18 (x, d2) ⟨by dsimp only; omega, by dsimp only; omega, hs2, k, hk, he1⟩ ⟨rfl, rfl, rfl, rfl, rfl, trivial⟩ (fun w h => h) | exact J.closeK hk18 (x, Sort.swp d1 x (x - 1)) ⟨by dsimp only; omega, by dsimp only; omega, by dsimp only; rw [swp_size]; exact hs1, k, hk, he1⟩ ⟨rfl, rfl, rfl, rfl, rfl, trivial⟩ (fun w h => h)
            case' hf =>
             intro h
             try (first | (exfalso; omega) | (cases h; done) | (exfalso; simp at h; done) | subst h)
             all_goals
              rw [shiftDown_go (by omega) (by simpa using h)] at he2
              refine J.skip ?_
            all_goals refine JE.then_normal ?_
            all_goals
             refine J.draw _ _ [(0, .q), (1, .q), (2, .q), (3, .q), (4, .q), (5, .q), (6, .q), (7, .q), (8, .q), (10, .q), (11, .q), (12, .q), (9, .e), (13, .e), (14, .q), (15, .l), (16, .q), (17, .l)] mixed (by kernel_rfl) (Split.cons (Pick.head) (Split.nil)) ?_
             refine JM.quiet rfl rfl rfl rfl (fun m => y_move rfl) (JM.quiet rfl rfl rfl rfl (fun m => y_move rfl) (JM.quiet rfl rfl rfl rfl (fun m => y_move rfl) (JM.quiet rfl rfl rfl rfl (fun m => y_move rfl) ?_)))
             refine JM.quiet rfl rfl rfl rfl (fun m => y_sub rfl rfl (by (first | exact wrap_i64 (by omega) (by omega) | rfl))) ?_
             refine JM.quiet rfl rfl rfl rfl (fun m => y_move rfl) (JM.quiet rfl rfl rfl rfl (fun m => y_move rfl) ?_)
             refine JM.quiet rfl rfl rfl rfl (fun m => y_sub rfl rfl (by (first | exact wrap_i64 (by omega) (by omega) | rfl))) ?_
             refine JM.quiet rfl rfl rfl rfl (fun m => y_indexAddr_slice hT rfl rfl rfl rfl rfl (by (first | omega | exact Nat.le_of_ble_eq_true rfl | decide | (simp; omega))) (by (first | omega | exact Nat.le_of_ble_eq_true rfl | decide | (simp; omega)))) ?_
             refine JM.quiet rfl rfl rfl rfl (fun m => y_move rfl) (JM.quiet rfl rfl rfl rfl (fun m => y_move rfl) ?_)
             refine JM.quiet rfl rfl rfl rfl (fun m => y_indexAddr_slice hT rfl rfl rfl rfl rfl (by (first | omega | exact Nat.le_of_ble_eq_true rfl | decide | (simp; omega))) (by (first | omega | exact Nat.le_of_ble_eq_true rfl | decide | (simp; omega)))) ?_
             refine JM.early rfl rfl rfl rfl (fun fr => y_load1 hT rfl rfl rfl (Rd1.arr (i := (j - 1)) (by (repeat (first | exact Pick.head | apply Pick.tail | apply Pick.app))) (by (first | assumption | omega | (simp only [Array.size_setIfInBounds]; omega))) (by exact arr_off rfl (by omega)))) ?_
             refine JM.early rfl rfl rfl rfl (fun fr => y_load1 hT rfl rfl rfl (Rd1.arr (i := (j)) (by (repeat (first | exact Pick.head | apply Pick.tail | apply Pick.app))) (by (first | assumption | omega | (simp only [Array.size_setIfInBounds]; omega))) (by exact arr_off rfl (by omega)))) ?_
             refine JM.quiet rfl rfl rfl rfl (fun m => y_indexAddr_slice hT rfl rfl rfl rfl rfl (by (first | omega | exact Nat.le_of_ble_eq_true rfl | decide | (simp; omega))) (by (first | omega | exact Nat.le_of_ble_eq_true rfl | decide | (simp; omega)))) ?_
             refine JM.loud rfl rfl (fun fr => l_storeArr (j := (j)) (u := d2[j - 1]!) hT rfl rfl rfl rfl (fun _ => rfl) (by (repeat (first | exact Pick.head | apply Pick.tail | apply Pick.app))) (by (first | assumption | omega | (simp only [Array.size_setIfInBounds]; omega))) (by exact arr_off rfl (by omega)) (⟨[_], (by (repeat (first | exact Split.nil | exact Split.all | refine Split.cons Pick.head ?_))), ?_⟩))
             refine JM.quiet rfl rfl rfl rfl (fun m => y_indexAddr_slice hT rfl rfl rfl rfl rfl (by (first | omega | exact Nat.le_of_ble_eq_true rfl | decide | (simp; omega))) (by (first | omega | exact Nat.le_of_ble_eq_true rfl | decide | (simp; omega)))) ?_
             refine JM.loud rfl rfl (fun fr => l_storeArr (j := (j - 1)) (u := d2[j]!) hT rfl rfl rfl rfl (fun _ => rfl) (by (repeat (first | exact Pick.head | apply Pick.tail | apply Pick.app))) (by (first | assumption | omega | (simp only [Array.size_setIfInBounds]; omega))) (by exact arr_off rfl (by omega)) (⟨[_], (by (repeat (first | exact Split.nil | exact Split.all | refine Split.cons Pick.head ?_))), ?_⟩))
             refine JM.nil ?_
            all_goals refine JE.block_normal (JE.then_normal ?_)
            all_goals
             refine J.region (JL.step (y_move rfl) rfl rfl rfl ?_)
             refine JL.step (y_sub rfl rfl (by (first | exact wrap_i64 (by omega) (by omega) | rfl))) rfl rfl rfl ?_
             refine JL.step (y_assign rfl) rfl rfl rfl ?_
             refine JL.nil ?_
           all_goals
            exact JE.round (s := (j, d2)) (j - 1, Sort.swp d2 j (j - 1)) ⟨by dsimp only; omega, by dsimp only; rw [swp_size]; exact hs2, he2⟩ ⟨rfl, rfl, rfl, rfl, rfl, (congrArg (fun z => some (Value.int .i64 z)) (by first | omega | (dsimp only; omega))), trivial⟩ (fun w h => h) (by dsimp only; omega)
         case' hf =>
          intro h
          try (first | (exfalso; omega) | (cases h; done) | (exfalso; simp at h; done) | subst h)
          all_goals
           have hfd : Sort.fixDown Sort.ltInt a x (Sort.swp d1 x (x - 1)) = Sort.swp d1 x (x - 1) := if_neg (by omega)
           rw [hfd] at he1
           refine J.skip ?_
         all_goals refine JE.then_normal ?_
         all_goals
          first | exact J.closeK hk18 (x, d2) ⟨by dsimp only; omega, by dsimp only; omega, hs2, k, hk, he1⟩ ⟨rfl, rfl, rfl, rfl, rfl, trivial⟩ (fun w h => h) | exact J.closeK hk18 (x, Sort.swp d1 x (x - 1)) ⟨by dsimp only; omega, by dsimp only; omega, by dsimp only; rw [swp_size]; exact hs1, k, hk, he1⟩ ⟨rfl, rfl, rfl, rfl, rfl, trivial⟩ (fun w h => h)
        rintro ⟨x, d3⟩ ⟨hx1, hx2, hs3, k, hk, he3⟩
        try dsimp only at hx1 hx2 hs3 he3 ⊢
        refine J.seq (J.region (JL.step (y_move rfl) rfl rfl rfl (JL.step (y_move rfl) rfl rfl rfl ?_)))
        refine JL.step (y_sub rfl rfl (by (first | exact wrap_i64 (by omega) (by omega) | rfl))) rfl rfl rfl ?_
        refine JL.step (y_geq rfl rfl) rfl rfl rfl ?_
        refine JL.nil (JE.then_normal ?_)
        first | apply J.cond_dec rfl | apply J.cond rfl
        case' ht =>
         intro h
         try (first | (exfalso; omega) | (cases h; done) | (exfalso; simp at h; done) | subst h)
         all_goals
          have hfu : Sort.fixUp Sort.ltInt b x d3 = Sort.shiftUp Sort.ltInt b (x + 1) d3 := if_pos (by omega)
          rw [hfu] at he3
          refine J.seq (J.region (JL.step (y_move rfl) rfl rfl rfl ?_))
          refine JL.step (y_add rfl rfl (by (first | exact wrap_i64 (by omega) (by omega) | rfl))) rfl rfl rfl ?_
          refine JL.step (y_assign rfl) rfl rfl rfl ?_
          refine JL.nil (JE.then_normal (J.block ?_))
          refine J.loop (α := Nat × Array Int) (fun q => x + 1 ≤ q.1 ∧ q.1 ≤ b ∧ q.2.size = n ∧ Sort.shiftUp Sort.ltInt b q.1 q.2 = Sort.shiftUp Sort.ltInt b (x + 1) d3) (fun q => [(0, .slice (some ⟨g, 0, none⟩) n c), (1, .int .i64 a), (2, .int .i64 b), (7, .int .i64 x), (8, .int .i64 (5 - (s : Int))), (10, .int .i64 q.1)]) (fun q => arI g q.2 sp :: r) (fun q => b - q.1) (x + 1, d3) ⟨Nat.le_refl _, by dsimp only; omega, hs3, rfl⟩ ⟨rfl, rfl, rfl, rfl, rfl, (congrArg (fun z => some (Value.int .i64 z)) (by first | omega | (dsimp only; omega))), trivial⟩ (fun w h => h) ?_
          rintro ⟨j, d4⟩ ⟨hj1, hj2, hs4, he4⟩
          try dsimp only at hj1 hj2 hs4 he4 ⊢
          refine J.seq (J.seq (J.region (JL.step (y_move rfl) rfl rfl rfl (JL.step (y_move rfl) rfl rfl rfl (JL.step (y_lss rfl rfl) rfl rfl rfl ?_)))))
          refine JL.nil (JE.then_normal ?_)
          first | apply J.cond_dec rfl | apply J.cond rfl
          case' ht =>
           intro h
           try (first | (exfalso; omega) | (cases h; done) | (exfalso; simp at h; done) | subst h)
           all_goals
            refine J.skip ?_
          case' hf =>
           intro h
           try (first | (exfalso; omega) | (cases h; done) | (exfalso; simp at h; done) | subst h)
           all_goals
            rw [shiftUp_stop (.inl (by omega))] at he4
            rw [← he4] at he3
            refine J.exit (JE.then_exit (JE.then_exit (JE.block_exit (JE.block_normal (JE.then_normal ?_)))))
            first | exact J.closeK hk4 (x, d4) ⟨by dsimp only; omega, by dsimp only; omega, hs4, k, hk, he3⟩ ⟨rfl, rfl, rfl, rfl, rfl, trivial⟩ (fun w h => h) | exact J.closeK hk4 (x, d3) ⟨by dsimp only; omega, by dsimp only; omega, hs3, k, hk, he3⟩ ⟨rfl, rfl, rfl, rfl, rfl, trivial⟩ (fun w h => h)
          all_goals refine JE.then_normal ?_
          all_goals
           refine J.seq (J.block (J.seq (J.seq ?_)))
           refine J.draw _ _ [(0, .q), (1, .q), (2, .q), (3, .q), (4, .q), (5, .q), (6, .q), (7, .q), (8, .q), (9, .q), (10, .q)] mixed (by kernel_rfl) (Split.nil) ?_
           refine JM.quiet rfl rfl rfl rfl (fun m => y_move rfl) (JM.quiet rfl rfl rfl rfl (fun m => y_move rfl) ?_)
           refine JM.quiet rfl rfl rfl rfl (fun m => y_indexAddr_slice hT rfl rfl rfl rfl rfl (by (first | omega | exact Nat.le_of_ble_eq_true rfl | decide | (simp; omega))) (by (first | omega | exact Nat.le_of_ble_eq_true rfl | decide | (simp; omega)))) ?_
           refine JM.quiet rfl rfl rfl rfl (fun m => y_load1 hT rfl rfl rfl (Rd1.arr (i := (j)) (Pick.app m (by (repeat (first | exact Pick.head | apply Pick.tail | apply Pick.app)))) (by (first | assumption | omega | (simp only [Array.size_setIfInBounds]; omega))) (by exact arr_off rfl (by omega)))) ?_
           refine JM.quiet rfl rfl rfl rfl (fun m => y_move rfl) (JM.quiet rfl rfl rfl rfl (fun m => y_move rfl) ?_)
           refine JM.quiet rfl rfl rfl rfl (fun m => y_sub rfl rfl (by (first | exact wrap_i64 (by omega) (by omega) | rfl))) ?_
           refine JM.quiet rfl rfl rfl rfl (fun m => y_indexAddr_slice hT rfl rfl rfl rfl rfl (by (first | omega | exact Nat.le_of_ble_eq_true rfl | decide | (simp; omega))) (by (first | omega | exact Nat.le_of_ble_eq_true rfl | decide | (simp; omega)))) ?_
           refine JM.quiet rfl rfl rfl rfl (fun m => y_load1 hT rfl rfl rfl (Rd1.arr (i := (j - 1)) (Pick.app m (by (repeat (first | exact Pick.head | apply Pick.tail | apply Pick.app)))) (by (first | assumption | omega | (simp only [Array.size_setIfInBounds]; omega))) (by exact arr_off rfl (by omega)))) ?_
           refine JM.quiet rfl rfl rfl rfl (fun m => y_callF e112 rfl (lessI E _ _ _)) (JM.quiet rfl rfl rfl rfl (fun m => y_not rfl) ?_)
           refine JM.nil (JE.then_normal ?_)
           first | apply J.cond_dec rfl | apply J.cond rfl
           case' ht =>
            intro h
            try (first | (exfalso; omega) | (cases h; done) | (exfalso; simp at h; done) | subst h)
            all_goals
             rw [shiftUp_stop (.inr (by simpa using h))] at he4
             rw [← he4] at he3
             refine J.exit (JE.then_exit ?_)
             refine JE.block_past rfl ?_
             refine JE.then_exit (JE.then_exit (JE.block_exit (JE.block_normal (JE.then_normal ?_))))
             first | exact J.closeK hk4 (x, d4) ⟨by dsimp only; omega, by dsimp only; omega, hs4, k, hk, he3⟩ ⟨rfl, rfl, rfl, rfl, rfl, trivial⟩ (fun w h => h) | exact J.closeK hk4 (x, d3) ⟨by dsimp only; omega, by dsimp only; omega, hs3, k, hk, he3⟩ ⟨rfl, rfl, rfl, rfl, rfl, trivial⟩ (fun w h => h)
           case' hf =>
            intro h
            try (first | (exfalso; omega) | (cases h; done) | (exfalso; simp at h; done) | subst h)
            all_goals
             rw [shiftUp_go (by omega) (by simpa using h)] at he4
             refine J.skip ?_
           all_goals refine JE.then_normal ?_
           all_goals
            refine J.draw _ _ [(0, .q), (1, .q), (2, .q), (3, .q), (4, .q), (5, .q), (6, .q), (7, .q), (8, .q), (10, .q), (11, .q), (12, .q), (9, .e), (13, .e), (14, .q), (15, .l), (16, .q), (17, .l)] mixed (by kernel_rfl) (Split.cons (Pick.head) (Split.nil)) ?_
            refine JM.quiet rfl rfl rfl rfl (fun m => y_move rfl) (JM.quiet rfl rfl rfl rfl (fun m => y_move rfl) (JM.quiet rfl rfl rfl rfl (fun m => y_move rfl) (JM.quiet rfl rfl rfl rfl (fun m => y_move rfl) ?_)))
            refine JM.quiet rfl rfl rfl rfl (fun m => y_sub rfl rfl (by (first | exact wrap_i64 (by omega) (by omega) | rfl))) ?_
            refine JM.quiet rfl rfl rfl rfl (fun m => y_move rfl) (JM.quiet rfl rfl rfl rfl (fun m => y_move rfl) ?_)
            refine JM.quiet rfl rfl rfl rfl (fun m => y_sub rfl rfl (by (first | exact wrap_i64 (by omega) (by omega) | rfl))) ?_
            refine JM.quiet rfl rfl rfl rfl (fun m => y_indexAddr_slice hT rfl rfl rfl rfl rfl (by (first | omega | exact Nat.le_of_ble_eq_true rfl | decide | (simp; omega))) (by (first | omega | exact Nat.le_of_ble_eq_true rfl | decide | (simp; omega)))) ?_
            refine JM.quiet rfl rfl rfl rfl (fun m => y_move rfl) (JM.quiet rfl rfl rfl rfl (fun m => y_move rfl) ?_)
            refine JM.quiet rfl rfl rfl rfl (fun m => y_indexAddr_slice hT rfl rfl rfl rfl rfl (by (first | omega | exact Nat.le_of_ble_eq_true rfl | decide | (simp; omega))) (by (first | omega | exact Nat.le_of_ble_eq_true rfl | decide | (simp; omega)))) ?_
            refine JM.early rfl rfl rfl rfl (fun fr => y_load1 hT rfl rfl rfl (Rd1.arr (i := (j - 1)) (by (repeat (first | exact Pick.head | apply Pick.tail | apply Pick.app))) (by (first | assumption | omega | (simp only [Array.size_setIfInBounds]; omega))) (by exact arr_off rfl (by omega)))) ?_
            refine JM.early rfl rfl rfl rfl (fun fr => y_load1 hT rfl rfl rfl (Rd1.arr (i := (j)) (by (repeat (first | exact Pick.head | apply Pick.tail | apply Pick.app))) (by (first | assumption | omega | (simp only [Array.size_setIfInBounds]; omega))) (by exact arr_off rfl (by omega)))) ?_
            refine JM.quiet rfl rfl rfl rfl (fun m => y_indexAddr_slice hT rfl rfl rfl rfl rfl (by (first | omega | exact Nat.le_of_ble_eq_true rfl | decide | (simp; omega))) (by (first | omega | exact Nat.le_of_ble_eq_true rfl | decide | (simp; omega)))) ?_
            refine JM.loud rfl rfl (fun fr => l_storeArr (j := (j)) (u := d4[j - 1]!) hT rfl rfl rfl rfl (fun _ => rfl) (by (repeat (first | exact Pick.head | apply Pick.tail | apply Pick.app))) (by (first | assumption | omega | (simp only [Array.size_setIfInBounds]; omega))) (by exact arr_off rfl (by omega)) (⟨[_], (by (repeat (first | exact Split.nil | exact Split.all | refine Split.cons Pick.head ?_))), ?_⟩))
            refine JM.quiet rfl rfl rfl rfl (fun m => y_indexAddr_slice hT rfl rfl rfl rfl rfl (by (first | omega | exact Nat.le_of_ble_eq_true rfl | decide | (simp; omega))) (by (first | omega | exact Nat.le_of_ble_eq_true rfl | decide | (simp; omega)))) ?_
            refine JM.loud rfl rfl (fun fr => l_storeArr (j := (j - 1)) (u := d4[j]!) hT rfl rfl rfl rfl (fun _ => rfl) (by (repeat (first | exact Pick.head | apply Pick.tail | apply Pick.app))) (by (first | assumption | omega | (simp only [Array.size_setIfInBounds]; omega))) (by exact arr_off rfl (by omega)) (⟨[_], (by (repeat (first | exact Split.nil | exact Split.all | refine Split.cons Pick.head ?_))), ?_⟩))
            refine JM.nil ?_
           all_goals refine JE.block_normal (JE.then_normal ?_)
           all_goals
            refine J.region (JL.step (y_move rfl) rfl rfl rfl ?_)
            refine JL.step (y_add rfl rfl (by (first | exact wrap_i64 (by omega) (by omega) | rfl))) rfl rfl rfl ?_
            refine JL.step (y_assign rfl) rfl rfl rfl ?_
            refine JL.nil ?_
          all_goals
           exact JE.round (s := (j, d4)) (j + 1, Sort.swp d4 j (j - 1)) ⟨by dsimp only; omega, by dsimp only; omega, by dsimp only; rw [swp_size]; exact hs4, he4⟩ ⟨rfl, rfl, rfl, rfl, rfl, (congrArg (fun z => some (Value.int .i64 z)) (by first | omega | (dsimp only; omega))), trivial⟩ (fun w h => h) (by dsimp only; omega)
        case' hf =>
         intro h
         try (first | (exfalso; omega) | (cases h; done) | (exfalso; simp at h; done) | subst h)
         all_goals
          have hfu : Sort.fixUp Sort.ltInt b x d3 = d3 := if_neg (by omega)
          rw [hfu] at he3
          refine J.skip ?_
      all_goals
       refine JE.block_normal (JE.then_normal ?_)
       first | exact J.closeK hk4 (x, d4) ⟨by dsimp only; omega, by dsimp only; omega, hs4, k, hk, he3⟩ ⟨rfl, rfl, rfl, rfl, rfl, trivial⟩ (fun w h => h) | exact J.closeK hk4 (x, d3) ⟨by dsimp only; omega, by dsimp only; omega, hs3, k, hk, he3⟩ ⟨rfl, rfl, rfl, rfl, rfl, trivial⟩ (fun w h => h)
   all_goals refine JE.then_normal ?_
   all_goals
    refine J.block (J.region (JL.step (y_move rfl) rfl rfl rfl ?_))
    refine JL.step (y_add rfl rfl (by (first | exact wrap_i64 (by omega) (by omega) | rfl))) rfl rfl rfl ?_
    refine JL.step (y_assign rfl) rfl rfl rfl ?_
    refine JL.nil (JE.block_normal ?_)
   all_goals
    exact JE.round (s := x) (x + 1) ⟨by omega, by omega, hx3⟩ ⟨rfl, rfl, rfl, (congrArg (fun z => some (Value.int .i64 z)) (by first | omega | (dsimp only; omega))), rfl, trivial⟩ (fun w h => h) (by omega)
  rintro ⟨x, d5⟩ ⟨hx1, hx2, hs5', k, hk, he5⟩
  try dsimp only at hx1 hx2 hs5' he5 ⊢
  refine J.region (JL.step (y_move rfl) rfl rfl rfl ?_)
  refine JL.step (y_add rfl rfl (by (first | exact wrap_i64 (by omega) (by omega) | rfl))) rfl rfl rfl ?_
  refine JL.step (y_assign rfl) rfl rfl rfl ?_
  refine JL.nil ?_
 all_goals
  exact JE.round (s := (s, i, d1)) (k, x, d5) ⟨by dsimp only; omega, hx1, hx2, hs5', he5⟩ ⟨rfl, rfl, rfl, rfl, (congrArg (fun z => some (Value.int .i64 z)) (by first | omega | (dsimp only; omega))), trivial⟩ (fun w h => h) (by dsimp only; omega)
end
end
section
open Go Go.SL
section
attribute [local irreducible] J JL JE JM LS Y Fc RV Code.wp wpList Code.wpIn wpListIn
attribute [local irreducible] Yc
attribute [local irreducible] Sort.ltInt
variable (E : World)
theorem pdqI (hS : Sort.SWO Sort.ltInt) (m : Nat) : ∀ (g c n a b : Nat) (ia ib lim : Int) (d : Array Int) (sp : List Value) (r : List HProp), b - a ≤ m → ia = a → ib = b → d.size = n → a ≤ b → b ≤ n → Sort.Below Sort.ltInt a b d → n < 4611686018427387904 →
 Fc prog E 78 [.slice (some ⟨g, 0, none⟩) n c, .int .i64 ia, .int .i64 ib, .int .i64 lim].toArray (arI g d sp :: r) (fun v l' => v = .tuple #[] ∧ ∃ d', Sort.PermIn a b d d' ∧ Sort.SortedIn Sort.ltInt a b d' ∧ l' = arI g d' sp :: r) := by
 induction m using Nat.strongRecOn with
 | ind m ih =>
 intro g c n a b ia ib lim d sp r hm ea eb hn hab hb hB h63
 refine Fc.post ?_
 subst ea eb
 refine Fc.of_body (c := ?codeC) Tryd.func78 ?hb Tryd.ntmps78 ?hl ?_
 case hb => exact rfl
 case hl => exact rfl
 refine J.seq (J.region (JL.step (y_assign rfl) rfl rfl rfl ?_))
 refine JL.nil (JE.then_normal (J.seq (J.region (JL.step (y_assign rfl) rfl rfl rfl ?_))))
 refine JL.nil (JE.then_normal (J.block ?_))
 refine J.loop (α := Nat × Nat × Int × Bool × Bool × Array Int) (fun s => a ≤ s.1 ∧ s.1 ≤ s.2.1 ∧ s.2.1 ≤ b ∧ s.2.2.2.2.2.size = n ∧ Sort.Below Sort.ltInt s.1 s.2.1 s.2.2.2.2.2 ∧ ∀ R, Sort.PermIn s.1 s.2.1 s.2.2.2.2.2 R → Sort.SortedIn Sort.ltInt s.1 s.2.1 R → Sort.PermIn a b d R ∧ Sort.SortedIn Sort.ltInt a b R) (fun s => [(0, .slice (some ⟨g, 0, none⟩) n c), (1, .int .i64 s.1), (2, .int .i64 s.2.1), (3, .int .i64 s.2.2.1), (8, .bool s.2.2.2.1), (9, .bool s.2.2.2.2.1)]) (fun s => arI g s.2.2.2.2.2 sp :: r) (fun s => s.2.1 - s.1) (a, b, lim, true, true, d) ⟨Nat.le_refl _, hab, Nat.le_refl _, hn, hB, fun R h1 h2 => ⟨h1, h2⟩⟩ ⟨rfl, rfl, rfl, rfl, rfl, rfl, trivial⟩ (fun w h => h) ?_
 rintro ⟨x, y, lm0, wb, wp, d1⟩ ⟨hx, hxy, hy, hs1, hB1, hg1⟩
 try dsimp only at hx hxy hy hs1 hB1 hg1 ⊢
 refine J.block (J.seq (J.region (JL.step (y_move rfl) rfl rfl rfl (JL.step (y_move rfl) rfl rfl rfl ?_))))
 refine JL.step (y_sub rfl rfl (by (first | exact wrap_i64 (by omega) (by omega) | rfl))) rfl rfl rfl ?_
 refine JL.step (y_assign rfl) rfl rfl rfl ?_
 refine JL.nil (JE.then_normal (J.seq (J.seq (J.region (JL.step (y_move rfl) rfl rfl rfl (JL.step (y_leq rfl rfl) rfl rfl rfl ?_))))))
 refine JL.nil (JE.then_normal ?_)
 first | apply J.cond_dec rfl | apply J.cond rfl
 case' ht =>
  intro h
  try (first | (exfalso; omega) | (cases h; done) | (exfalso; simp at h; done) | subst h)
  all_goals
   have hfin := hg1 _ (Sort.insertionSort_holds hS d1 x y hxy (by omega)).1 (Sort.insertionSort_holds hS d1 x y hxy (by omega)).2
   refine J.seq (J.region (JL.step (y_move rfl) rfl rfl rfl (JL.step (y_move rfl) rfl rfl rfl (JL.step (y_move rfl) rfl rfl rfl ?_))))
   refine JL.loud rfl (l_callF e106 rfl rfl (Fc.on (Split.cons (by (repeat (first | exact Pick.head | apply Pick.tail | apply Pick.app))) Split.nil) (insI E g c n x y _ _ d1 sp _ rfl rfl hs1 (by omega) (by omega) h63)) ?_)
   rintro _ _ ⟨rfl, rfl⟩
   refine JL.nil (JE.then_normal (J.ret (JE.then_ret (JE.block_ret (JE.then_ret (JE.block_ret ?_))))))
   refine JE.ret0 (.inl rfl) rfl rfl  ?_
   exact ⟨_, fun w h => h, rfl, _, hfin.1, hfin.2, rfl⟩
 case' hf =>
  intro h
  try (first | (exfalso; omega) | (cases h; done) | (exfalso; simp at h; done) | subst h)
  all_goals
   refine J.skip ?_
 all_goals refine JE.then_normal ?_
 all_goals
  refine J.seq (J.seq (J.region (JL.step (y_move rfl) rfl rfl rfl (JL.step (y_eql rfl rfl) rfl rfl rfl ?_))))
  refine JL.nil (JE.then_normal ?_)
  first | apply J.cond_dec rfl | apply J.cond rfl
  case' ht =>
   intro h
   try (first | (exfalso; omega) | (cases h; done) | (exfalso; simp at h; done) | subst h)
   all_goals
    have hfin := hg1 _ (Sort.heapSort_holds hS d1 x y hxy (by omega)).1 (Sort.heapSort_holds hS d1 x y hxy (by omega)).2
    refine J.seq (J.region (JL.step (y_move rfl) rfl rfl rfl (JL.step (y_move rfl) rfl rfl rfl (JL.step (y_move rfl) rfl rfl rfl ?_))))
    refine JL.loud rfl (l_callF e107 rfl rfl (Fc.on (Split.cons (by (repeat (first | exact Pick.head | apply Pick.tail | apply Pick.app))) Split.nil) (heapI E g c n x y _ _ d1 sp _ rfl rfl hs1 (by omega) (by omega) h63)) ?_)
    rintro _ _ ⟨rfl, dh, rfl, rfl⟩
    refine JL.nil (JE.then_normal (J.ret (JE.then_ret (JE.block_ret (JE.then_ret (JE.block_ret ?_))))))
    refine JE.ret0 (.inl rfl) rfl rfl  ?_
    exact ⟨_, fun w h => h, rfl, _, hfin.1, hfin.2, rfl⟩
  case' hf =>
   intro h
   try (first | (exfalso; omega) | (cases h; done) | (exfalso; simp at h; done) | subst h)
   all_goals
    refine J.skip ?_
  all_goals refine JE.then_normal ?_
  all_goals
   refine J.seqK (α := Int × Array Int) (fun q => x + 12 < y ∧ Sort.PermIn x y d1 q.2) (fun q => [(0, .slice (some ⟨g, 0, none⟩) n c), (1, .int .i64 x), (2, .int .i64 y), (3, .int .i64 q.1), (8, .bool wb), (9, .bool wp), (10, .int .i64 ((y - x : Nat) : Int))]) (fun q => arI g q.2 sp :: r) ?hj10 (fun hk10 => ?hf10)
   case hf10 =>
    refine J.seq (J.region (JL.step (y_move rfl) rfl rfl rfl (JL.step (y_not rfl) rfl rfl rfl ?_)))
    refine JL.nil (JE.then_normal ?_)
    first | apply J.cond_dec rfl | apply J.cond rfl
    case' ht =>
     intro h
     try (first | (exfalso; omega) | (cases h; done) | (exfalso; simp at h; done) | subst h)
     all_goals
      refine J.seq (J.region (JL.step (y_move rfl) rfl rfl rfl (JL.step (y_move rfl) rfl rfl rfl (JL.step (y_move rfl) rfl rfl rfl ?_))))
      refine JL.loud rfl (l_callF e108 rfl rfl (Fc.on (Split.cons (by (repeat (first | exact Pick.head | apply Pick.tail | apply Pick.app))) Split.nil) (brkI E g c n x y _ _ d1 sp _ rfl rfl hs1 (by omega) (by omega) h63)) ?_)
      rintro _ _ ⟨rfl, db, hdb, rfl⟩
      refine JL.nil (JE.then_normal (J.region (JL.step (y_move rfl) rfl rfl rfl ?_)))
      refine JL.step (y_sub rfl rfl (by (first | exact wrap_i64 (by omega) (by omega) | rfl))) rfl rfl rfl ?_
      refine JL.step (y_assign rfl) rfl rfl rfl ?_
      refine JL.nil ?_
    case' hf =>
     intro h
     try (first | (exfalso; omega) | (cases h; done) | (exfalso; simp at h; done) | subst h)
     all_goals
      refine J.skip ?_
    all_goals refine JE.then_normal ?_
    all_goals
     first | exact J.closeK hk10 (IntKind.i64.wrap (lm0 - 1), db) ⟨(by omega : x + 12 < y), hdb⟩ ⟨rfl, rfl, rfl, rfl, rfl, rfl, (congrArg (fun z => some (Value.int .i64 z)) (by first | omega | (dsimp only; omega))), trivial⟩ (fun w h => h) | exact J.closeK hk10 (lm0, d1) ⟨(by omega : x + 12 < y), Sort.permIn_refl _ _ _⟩ ⟨rfl, rfl, rfl, rfl, rfl, rfl, (congrArg (fun z => some (Value.int .i64 z)) (by first | omega | (dsimp only; omega))), trivial⟩ (fun w h => h)
   rintro ⟨lm, d2⟩ ⟨hlen, hp2⟩
   try dsimp only at hlen hp2 ⊢
   have hs2 : d2.size = n := by rw [hp2.1]; exact hs1
   refine J.seq (J.region (JL.step (y_move rfl) rfl rfl rfl (JL.step (y_move rfl) rfl rfl rfl (JL.step (y_move rfl) rfl rfl rfl ?_))))
   refine JL.loud rfl (l_callF e109 rfl rfl (Fc.on (Split.cons (by (repeat (first | exact Pick.head | apply Pick.tail | apply Pick.app))) Split.nil) (pivotI E g c n x y _ _ d2 sp _ rfl rfl hs2 (by omega) (by omega) h63)) ?_)
   rintro _ _ ⟨pv, hint, rfl, hv1, hv2, rfl⟩
   refine JL.step (y_move rfl) rfl rfl rfl (JL.step (y_extract rfl rfl) rfl rfl rfl (JL.step (y_extract rfl rfl) rfl rfl rfl (JL.step (y_assign rfl) rfl rfl rfl (JL.step (y_assign rfl) rfl rfl rfl ?_))))
   refine JL.nil (JE.then_normal ?_)
   refine J.seqK (α := Nat × Int × Array Int) (fun q => x ≤ q.1 ∧ q.1 < y ∧ x + 12 < y ∧ Sort.PermIn x y d1 q.2.2) (fun q => [(0, .slice (some ⟨g, 0, none⟩) n c), (1, .int .i64 x), (2, .int .i64 y), (3, .int .i64 lm), (8, .bool wb), (9, .bool wp), (10, .int .i64 ((y - x : Nat) : Int)), (11, .int .i64 q.1), (12, .int .i64 q.2.1)]) (fun q => arI g q.2.2 sp :: r) ?hj15 (fun hk15 => ?hf15)
   case hf15 =>
    refine J.seq (J.region (JL.step (y_move rfl) rfl rfl rfl (JL.step (y_eql rfl rfl) rfl rfl rfl ?_)))
    refine JL.nil (JE.then_normal ?_)
    first | apply J.cond_dec rfl | apply J.cond rfl
    case' ht =>
     intro h
     try (first | (exfalso; omega) | (cases h; done) | (exfalso; simp at h; done) | subst h)
     all_goals
      refine J.seq (J.region (JL.step (y_move rfl) rfl rfl rfl (JL.step (y_move rfl) rfl rfl rfl (JL.step (y_move rfl) rfl rfl rfl ?_))))
      refine JL.loud rfl (l_callF e110 rfl rfl (Fc.on (Split.cons (by (repeat (first | exact Pick.head | apply Pick.tail | apply Pick.app))) Split.nil) (revI E g c n x y _ _ d2 sp _ rfl rfl hs2 (by omega) (by omega) h63)) ?_)
      rintro _ _ ⟨rfl, rfl⟩
      refine JL.nil (JE.then_normal (J.seq (J.region (JL.step (y_move rfl) rfl rfl rfl ?_))))
      refine JL.step (y_sub rfl rfl (by (first | exact wrap_i64 (by omega) (by omega) | rfl))) rfl rfl rfl ?_
      refine JL.step (y_move rfl) rfl rfl rfl (JL.step (y_move rfl) rfl rfl rfl ?_)
      refine JL.step (y_sub rfl rfl (by (first | exact wrap_i64 (by omega) (by omega) | rfl))) rfl rfl rfl ?_
      refine JL.step (y_sub rfl rfl (by (first | exact wrap_i64 (by omega) (by omega) | rfl))) rfl rfl rfl ?_
      refine JL.step (y_assign rfl) rfl rfl rfl ?_
      refine JL.nil (JE.then_normal (J.region (JL.step (y_assign rfl) rfl rfl rfl ?_)))
      refine JL.nil ?_
    case' hf =>
     intro h
     try (first | (exfalso; omega) | (cases h; done) | (exfalso; simp at h; done) | subst h)
     all_goals
      refine J.skip ?_
    all_goals refine JE.then_normal ?_
    all_goals
     first | exact J.closeK hk15 (y - 1 - (pv - x), 1, Sort.reverseRange d2 x y) ⟨by dsimp only; omega, by dsimp only; omega, hlen, Sort.permIn_trans _ _ _ _ _ hp2 (Sort.reverseRange_holds d2 x y hxy (by omega))⟩ ⟨rfl, rfl, rfl, rfl, rfl, rfl, rfl, (congrArg (fun z => some (Value.int .i64 z)) (by first | omega | (dsimp only; omega))), rfl, trivial⟩ (fun w h => h) | exact J.closeK hk15 (pv, hint, d2) ⟨hv1, hv2, hlen, hp2⟩ ⟨rfl, rfl, rfl, rfl, rfl, rfl, rfl, rfl, rfl, trivial⟩ (fun w h => h)
   rintro ⟨pv, hint, d2⟩ ⟨hv1, hv2, hlen, hp2⟩
   try dsimp only at hv1 hv2 hlen hp2 ⊢
   have hs2 : d2.size = n := by rw [hp2.1]; exact hs1
   have hB2 := hB1.perm (by omega) hp2
   have hpi := Sort.partialInsertionSort_holds hS d2 x y (by omega) (by omega) hB2
   refine J.seqK (α := Array Int) (fun q => Sort.PermIn x y d1 q) (fun q => [(0, .slice (some ⟨g, 0, none⟩) n c), (1, .int .i64 x), (2, .int .i64 y), (3, .int .i64 lm), (8, .bool wb), (9, .bool wp), (10, .int .i64 ((y - x : Nat) : Int)), (11, .int .i64 pv)]) (fun q => arI g q sp :: r) ?hj17 (fun hk17 => ?hf17)
   case hf17 =>
    refine J.seq (J.region (JL.step (y_move rfl) rfl rfl rfl (JL.step (y_move rfl) rfl rfl rfl ?_)))
    all_goals (first | (refine JL.gsplit_dec rfl rfl rfl (fun h => ?_) (fun h => ?_) <;> try (first | (exfalso; omega) | exact absurd rfl h)) | (refine JL.gsplit rfl rfl rfl (fun h => ?_) (fun h => ?_) <;> try (first | cases h | (exfalso; simp at h; done))) | skip)
    all_goals (first | refine JL.gskip rfl rfl rfl rfl rfl rfl ?_ | refine JL.gskipU rfl rfl rfl rfl rfl ?_ | refine JL.gstep rfl rfl rfl (y_move rfl) rfl rfl ?_)
    all_goals (refine JL.step (y_pick rfl rfl rfl) rfl rfl rfl ?_)
    all_goals (refine JL.step (y_move rfl) rfl rfl rfl ?_)
    all_goals (first | (refine JL.gsplit_dec rfl rfl rfl (fun h => ?_) (fun h => ?_) <;> try (first | (exfalso; omega) | exact absurd rfl h)) | (refine JL.gsplit rfl rfl rfl (fun h => ?_) (fun h => ?_) <;> try (first | cases h | (exfalso; simp at h; done))) | skip)
    all_goals (first | refine JL.gskip rfl rfl rfl rfl rfl rfl ?_ | refine JL.gskipU rfl rfl rfl rfl rfl ?_ | refine JL.gstep rfl rfl rfl (y_move rfl) rfl rfl ?_)
    all_goals (first | refine JL.gskip rfl rfl rfl rfl rfl rfl ?_ | refine JL.gskipU rfl rfl rfl rfl rfl ?_ | refine JL.gstep rfl rfl rfl (y_eql rfl rfl) rfl rfl ?_)
    all_goals (refine JL.step (y_pick rfl rfl rfl) rfl rfl rfl ?_)
    all_goals refine JL.nil (JE.then_normal ?_)
    all_goals
     first | apply J.cond_dec rfl | apply J.cond rfl
     case' ht =>
      intro h
      try (first | (exfalso; omega) | (cases h; done) | (exfalso; simp at h; done) | subst h)
      all_goals
       refine J.seq (J.region (JL.step (y_move rfl) rfl rfl rfl (JL.step (y_move rfl) rfl rfl rfl (JL.step (y_move rfl) rfl rfl rfl ?_))))
       refine JL.loud rfl (l_callF e111 rfl rfl (Fc.on (Split.cons (by (repeat (first | exact Pick.head | apply Pick.tail | apply Pick.app))) Split.nil) (pinsI E g c n x y _ _ d2 sp _ rfl rfl hs2 (by omega) (by omega) h63)) ?_)
       rintro _ _ ⟨rfl, rfl⟩
       refine JL.nil (JE.then_normal ?_)
       first | apply J.cond_dec rfl | apply J.cond rfl
       case' ht =>
        intro h
        try (first | (exfalso; omega) | (cases h; done) | (exfalso; simp at h; done) | subst h)
        all_goals
         have hfin := hg1 _ (Sort.permIn_trans _ _ _ _ _ hp2 hpi.1) (hpi.2 h)
         refine J.ret (JE.then_ret (JE.block_ret (JE.then_ret (JE.block_ret ?_))))
         refine JE.ret0 (.inl rfl) rfl rfl  ?_
         exact ⟨_, fun w h => h, rfl, _, hfin.1, hfin.2, rfl⟩
       case' hf =>
        intro h
        try (first | (exfalso; omega) | (cases h; done) | (exfalso; simp at h; done) | subst h)
        all_goals
         refine J.skip ?_
     case' hf =>
      intro h
      try (first | (exfalso; omega) | (cases h; done) | (exfalso; simp at h; done) | subst h)
      all_goals
       refine J.skip ?_
    all_goals refine JE.then_normal ?_
    all_goals
     first | exact J.closeK hk17 (Sort.partialInsertionSort Sort.ltInt d2 x y).1 (Sort.permIn_trans _ _ _ _ _ hp2 hpi.1) ⟨rfl, rfl, rfl, rfl, rfl, rfl, rfl, rfl, trivial⟩ (fun w h => h) | exact J.closeK hk17 d2 hp2 ⟨rfl, rfl, rfl, rfl, rfl, rfl, rfl, rfl, trivial⟩ (fun w h => h)
   rintro d3 hp3
   try dsimp only at hp3 ⊢
   have hs3 : d3.size = n := by rw [hp3.1]; exact hs1
   have hB3 := hB1.perm (by omega) hp3
   refine J.seq (J.seq ?_)
   by_cases hg : 0 < x
   all_goals
    refine J.draw _ _ [(0, .q), (1, .q), (2, .q), (3, .q), (4, .q), (5, .q), (6, .q), (7, .q), (8, .q), (9, .q), (10, .q), (11, .q), (12, .q), (13, .q), (14, .q)] mixed (by kernel_rfl) (Split.nil) ?_
    refine JM.quiet rfl rfl rfl rfl (fun m => y_move rfl) ?_
    first | refine JM.quiet rfl rfl rfl rfl (fun m => y_gtrB rfl rfl (decide_eq_true (by omega))) ?_ | refine JM.quiet rfl rfl rfl rfl (fun m => y_gtrB rfl rfl (decide_eq_false (by omega))) ?_
    refine JM.quiet rfl rfl rfl rfl (fun m => y_move rfl) ?_
    all_goals (first | refine JM.gskip rfl rfl rfl rfl rfl rfl rfl ?_ | refine JM.gskipU rfl rfl rfl rfl rfl rfl ?_ | refine JM.gquiet rfl rfl rfl rfl rfl rfl (fun m => y_move rfl) ?_)
    all_goals (first | refine JM.gskip rfl rfl rfl rfl rfl rfl rfl ?_ | refine JM.gskipU rfl rfl rfl rfl rfl rfl ?_ | refine JM.gquiet rfl rfl rfl rfl rfl rfl (fun m => y_move rfl) ?_)
    all_goals (first | refine JM.gskip rfl rfl rfl rfl rfl rfl rfl ?_ | refine JM.gskipU rfl rfl rfl rfl rfl rfl ?_ | refine JM.gquiet rfl rfl rfl rfl rfl rfl (fun m => y_sub rfl rfl (by (first | exact wrap_i64 (by omega) (by omega) | rfl))) ?_)
    all_goals (first | refine JM.gskip rfl rfl rfl rfl rfl rfl rfl ?_ | refine JM.gskipU rfl rfl rfl rfl rfl rfl ?_ | refine JM.gquiet rfl rfl rfl rfl rfl rfl (fun m => y_indexAddr_slice hT rfl rfl rfl rfl rfl (by (first | omega | exact Nat.le_of_ble_eq_true rfl | decide | (simp; omega))) (by (first | omega | exact Nat.le_of_ble_eq_true rfl | decide | (simp; omega)))) ?_)
    all_goals (first | refine JM.gskip rfl rfl rfl rfl rfl rfl rfl ?_ | refine JM.gskipU rfl rfl rfl rfl rfl rfl ?_ | refine JM.gquiet rfl rfl rfl rfl rfl rfl (fun m => y_load1 hT rfl rfl rfl (Rd1.arr (i := (x - 1)) (Pick.app m (by (repeat (first | exact Pick.head | apply Pick.tail | apply Pick.app)))) (by (first | assumption | omega | (simp only [Array.size_setIfInBounds]; omega))) (by exact arr_off rfl (by omega)))) ?_)
    all_goals (first | refine JM.gskip rfl rfl rfl rfl rfl rfl rfl ?_ | refine JM.gskipU rfl rfl rfl rfl rfl rfl ?_ | refine JM.gquiet rfl rfl rfl rfl rfl rfl (fun m => y_move rfl) ?_)
    all_goals (first | refine JM.gskip rfl rfl rfl rfl rfl rfl rfl ?_ | refine JM.gskipU rfl rfl rfl rfl rfl rfl ?_ | refine JM.gquiet rfl rfl rfl rfl rfl rfl (fun m => y_move rfl) ?_)
    all_goals (first | refine JM.gskip rfl rfl rfl rfl rfl rfl rfl ?_ | refine JM.gskipU rfl rfl rfl rfl rfl rfl ?_ | refine JM.gquiet rfl rfl rfl rfl rfl rfl (fun m => y_indexAddr_slice hT rfl rfl rfl rfl rfl (by (first | omega | exact Nat.le_of_ble_eq_true rfl | decide | (simp; omega))) (by (first | omega | exact Nat.le_of_ble_eq_true rfl | decide | (simp; omega)))) ?_)
    all_goals (first | refine JM.gskip rfl rfl rfl rfl rfl rfl rfl ?_ | refine JM.gskipU rfl rfl rfl rfl rfl rfl ?_ | refine JM.gquiet rfl rfl rfl rfl rfl rfl (fun m => y_load1 hT rfl rfl rfl (Rd1.arr (i := (pv)) (Pick.app m (by (repeat (first | exact Pick.head | apply Pick.tail | apply Pick.app)))) (by (first | assumption | omega | (simp only [Array.size_setIfInBounds]; omega))) (by exact arr_off rfl (by omega)))) ?_)
    all_goals (first | refine JM.gskip rfl rfl rfl rfl rfl rfl rfl ?_ | refine JM.gskipU rfl rfl rfl rfl rfl rfl ?_ | refine JM.gquiet rfl rfl rfl rfl rfl rfl (fun m => y_callF e112 rfl (lessI E _ _ _)) ?_)
    all_goals (first | refine JM.gskip rfl rfl rfl rfl rfl rfl rfl ?_ | refine JM.gskipU rfl rfl rfl rfl rfl rfl ?_ | refine JM.gquiet rfl rfl rfl rfl rfl rfl (fun m => y_not rfl) ?_)
    all_goals refine JM.quiet rfl rfl rfl rfl (fun m => y_pick rfl rfl rfl) ?_
    all_goals refine JM.nil ?_
   all_goals refine JE.then_normal ?_
   all_goals
    first | apply J.cond_dec rfl | apply J.cond rfl
    case' ht =>
     intro h
     try (first | (exfalso; omega) | (cases h; done) | (exfalso; simp at h; done) | subst h)
     all_goals
      obtain ⟨q1, q2, q3, q4, q5⟩ := Sort.round_eq (mid := (Sort.partitionEqual Sort.ltInt d3 x y pv).1) (d4 := (Sort.partitionEqual Sort.ltInt d3 x y pv).2) hS (Sort.partitionEqual_holds _) hg hv1 hv2 (by omega) hB3 (by simpa using h) rfl
      refine J.seq (J.region (JL.step (y_move rfl) rfl rfl rfl (JL.step (y_move rfl) rfl rfl rfl (JL.step (y_move rfl) rfl rfl rfl (JL.step (y_move rfl) rfl rfl rfl ?_)))))
      refine JL.loud rfl (l_callF e113 rfl rfl (Fc.on (Split.cons (by (repeat (first | exact Pick.head | apply Pick.tail | apply Pick.app))) Split.nil) (partEqI E g c n x y pv _ _ _ d3 sp _ rfl rfl rfl hs3 hv1 hv2 (by omega) h63)) ?_)
      rintro _ _ ⟨rfl, rfl⟩
      refine JL.step (y_assign rfl) rfl rfl rfl ?_
      refine JL.nil (JE.then_normal (J.seq (J.region (JL.step (y_move rfl) rfl rfl rfl (JL.step (y_assign rfl) rfl rfl rfl ?_)))))
      refine JL.nil (JE.then_normal (J.exit (JE.then_exit (JE.block_exit ?_))))
      first
      | exact JE.round (s := (x, y, lm0, wb, wp, d1)) ((Sort.partitionEqual Sort.ltInt d3 x y pv).1, y, lm, wb, wp, (Sort.partitionEqual Sort.ltInt d3 x y pv).2) ⟨by dsimp only; omega, q2, hy, by dsimp only; rw [q3]; exact hs3, q4, fun R k1 k2 => hg1 R (Sort.permIn_trans _ _ _ _ _ hp3 (q5 R k1 k2).1) (q5 R k1 k2).2⟩ ⟨rfl, rfl, rfl, rfl, rfl, rfl, trivial⟩ (fun w h => h) (by dsimp only; omega)
      | exact JE.round (s := (x, y, lm0, wb, wp, d1)) (mid + 1, y, lm, _, ap, dl) ⟨by dsimp only; omega, by dsimp only; omega, hy, by dsimp only; rw [hl1.1, q3]; exact hs3, (q6 dl hl1 hl2).1, fun R k1 k2 => hg1 R (Sort.permIn_trans _ _ _ _ _ hp3 ((q6 dl hl1 hl2).2 R k1 k2).1) ((q6 dl hl1 hl2).2 R k1 k2).2⟩ ⟨rfl, (congrArg (fun z => some (Value.int .i64 z)) (by first | omega | (dsimp only; omega))), rfl, rfl, rfl, rfl, trivial⟩ (fun w h => h) (by dsimp only; omega)
      | exact JE.round (s := (x, y, lm0, wb, wp, d1)) (x, mid, lm, _, ap, dr) ⟨hx, q1, by dsimp only; omega, by dsimp only; rw [hr1.1, q3]; exact hs3, (q7 dr hr1 hr2).1, fun R k1 k2 => hg1 R (Sort.permIn_trans _ _ _ _ _ hp3 ((q7 dr hr1 hr2).2 R k1 k2).1) ((q7 dr hr1 hr2).2 R k1 k2).2⟩ ⟨rfl, rfl, rfl, rfl, rfl, rfl, trivial⟩ (fun w h => h) (by dsimp only; omega)
    case' hf =>
     intro h
     try (first | (exfalso; omega) | (cases h; done) | (exfalso; simp at h; done) | subst h)
     all_goals
      obtain ⟨q1, q2, q3, q4, q5, q6, q7⟩ := Sort.round_part (mid := (Sort.partition Sort.ltInt d3 x y pv).1) (ap := (Sort.partition Sort.ltInt d3 x y pv).2.1) (d4 := (Sort.partition Sort.ltInt d3 x y pv).2.2) hS (Sort.partition_holds _) hv1 hv2 (by omega) hB3 rfl
      refine J.skip ?_
   all_goals refine JE.then_normal ?_
   all_goals
    refine J.seq (J.region (JL.step (y_move rfl) rfl rfl rfl (JL.step (y_move rfl) rfl rfl rfl (JL.step (y_move rfl) rfl rfl rfl (JL.step (y_move rfl) rfl rfl rfl ?_)))))
    refine JL.loud rfl (l_callF e114 rfl rfl (Fc.on (Split.cons (by (repeat (first | exact Pick.head | apply Pick.tail | apply Pick.app))) Split.nil) (partI E g c n x y pv _ _ _ d3 sp _ rfl rfl rfl hs3 hv1 hv2 (by omega) h63)) ?_)
    rintro _ _ ⟨rfl, rfl⟩
    refine JL.step (y_move rfl) rfl rfl rfl (JL.step (y_extract rfl rfl) rfl rfl rfl (JL.step (y_extract rfl rfl) rfl rfl rfl (JL.step (y_assign rfl) rfl rfl rfl (JL.step (y_assign rfl) rfl rfl rfl ?_))))
    refine JL.nil (JE.then_normal (J.seq (J.region ?_)))
    generalize (Sort.partition Sort.ltInt d3 x y pv).1 = mid at *
    generalize (Sort.partition Sort.ltInt d3 x y pv).2.1 = ap at *
    generalize (Sort.partition Sort.ltInt d3 x y pv).2.2 = d4 at *
    refine JL.step (y_move rfl) rfl rfl rfl (JL.step (y_assign rfl) rfl rfl rfl ?_)
    refine JL.nil (JE.then_normal (J.seq (J.region (JL.step (y_move rfl) rfl rfl rfl (JL.step (y_move rfl) rfl rfl rfl ?_)))))
    refine JL.step (y_sub rfl rfl (by (first | exact wrap_i64 (by omega) (by omega) | rfl))) rfl rfl rfl ?_
    refine JL.step (y_move rfl) rfl rfl rfl (JL.step (y_move rfl) rfl rfl rfl ?_)
    refine JL.step (y_sub rfl rfl (by (first | exact wrap_i64 (by omega) (by omega) | rfl))) rfl rfl rfl ?_
    refine JL.step (y_assign rfl) rfl rfl rfl (JL.step (y_assign rfl) rfl rfl rfl ?_)
    refine JL.nil (JE.then_normal (J.seq (J.region (JL.step (y_move rfl) rfl rfl rfl ?_))))
    refine JL.step (y_quo rfl rfl (by decide) (quo_nat (x := y - x) (k := 8) rfl (by omega))) rfl rfl rfl ?_
    refine JL.step (y_assign rfl) rfl rfl rfl ?_
    refine JL.nil (JE.then_normal (J.seq (J.region (JL.step (y_move rfl) rfl rfl rfl (JL.step (y_move rfl) rfl rfl rfl (JL.step (y_lss rfl rfl) rfl rfl rfl ?_))))))
    refine JL.nil (JE.then_normal ?_)
    first | apply J.cond_dec rfl | apply J.cond rfl
    case' ht =>
     intro h
     try (first | (exfalso; omega) | (cases h; done) | (exfalso; simp at h; done) | subst h)
     all_goals
      refine J.seq (J.region (JL.step (y_move rfl) rfl rfl rfl (JL.step (y_move rfl) rfl rfl rfl (JL.step (y_geq rfl rfl) rfl rfl rfl (JL.step (y_assign rfl) rfl rfl rfl ?_)))))
      refine JL.nil (JE.then_normal (J.seq (J.region (JL.step (y_move rfl) rfl rfl rfl (JL.step (y_move rfl) rfl rfl rfl (JL.step (y_move rfl) rfl rfl rfl (JL.step (y_move rfl) rfl rfl rfl ?_)))))))
      refine JL.loud rfl (l_callF e78 rfl rfl (Fc.on (Split.cons (by (repeat (first | exact Pick.head | apply Pick.tail | apply Pick.app))) Split.nil) (ih (mid - x) (by omega) g c n x mid _ _ _ d4 sp _ (Nat.le_refl _) rfl rfl (by rw [q3]; exact hs3) q1 (by omega) q4 h63)) ?_)
      rintro _ _ ⟨rfl, dl, hl1, hl2, rfl⟩
      refine JL.nil (JE.then_normal (J.region (JL.step (y_move rfl) rfl rfl rfl ?_)))
      refine JL.step (y_add rfl rfl (by (first | exact wrap_i64 (by omega) (by omega) | rfl))) rfl rfl rfl ?_
      refine JL.step (y_assign rfl) rfl rfl rfl ?_
      refine JL.nil ?_
    case' hf =>
     intro h
     try (first | (exfalso; omega) | (cases h; done) | (exfalso; simp at h; done) | subst h)
     all_goals
      refine J.seq (J.region (JL.step (y_move rfl) rfl rfl rfl (JL.step (y_move rfl) rfl rfl rfl (JL.step (y_geq rfl rfl) rfl rfl rfl (JL.step (y_assign rfl) rfl rfl rfl ?_)))))
      refine JL.nil (JE.then_normal (J.seq (J.region (JL.step (y_move rfl) rfl rfl rfl (JL.step (y_move rfl) rfl rfl rfl ?_)))))
      refine JL.step (y_add rfl rfl (by (first | exact wrap_i64 (by omega) (by omega) | rfl))) rfl rfl rfl ?_
      refine JL.step (y_move rfl) rfl rfl rfl (JL.step (y_move rfl) rfl rfl rfl ?_)
      refine JL.loud rfl (l_callF e78 rfl rfl (Fc.on (Split.cons (by (repeat (first | exact Pick.head | apply Pick.tail | apply Pick.app))) Split.nil) (ih (y - (mid + 1)) (by omega) g c n (mid + 1) y _ _ _ d4 sp _ (Nat.le_refl _) (by omega) rfl (by rw [q3]; exact hs3) (by omega) (by omega) q5 h63)) ?_)
      rintro _ _ ⟨rfl, dr, hr1, hr2, rfl⟩
      refine JL.nil (JE.then_normal (J.region (JL.step (y_move rfl) rfl rfl rfl (JL.step (y_assign rfl) rfl rfl rfl ?_))))
      refine JL.nil ?_
 all_goals refine JE.block_normal ?_
 all_goals
  first
  | exact JE.round (s := (x, y, lm0, wb, wp, d1)) ((Sort.partitionEqual Sort.ltInt d3 x y pv).1, y, lm, wb, wp, (Sort.partitionEqual Sort.ltInt d3 x y pv).2) ⟨by dsimp only; omega, q2, hy, by dsimp only; rw [q3]; exact hs3, q4, fun R k1 k2 => hg1 R (Sort.permIn_trans _ _ _ _ _ hp3 (q5 R k1 k2).1) (q5 R k1 k2).2⟩ ⟨rfl, rfl, rfl, rfl, rfl, rfl, trivial⟩ (fun w h => h) (by dsimp only; omega)
  | exact JE.round (s := (x, y, lm0, wb, wp, d1)) (mid + 1, y, lm, _, ap, dl) ⟨by dsimp only; omega, by dsimp only; omega, hy, by dsimp only; rw [hl1.1, q3]; exact hs3, (q6 dl hl1 hl2).1, fun R k1 k2 => hg1 R (Sort.permIn_trans _ _ _ _ _ hp3 ((q6 dl hl1 hl2).2 R k1 k2).1) ((q6 dl hl1 hl2).2 R k1 k2).2⟩ ⟨rfl, (congrArg (fun z => some (Value.int .i64 z)) (by first | omega | (dsimp only; omega))), rfl, rfl, rfl, rfl, trivial⟩ (fun w h => h) (by dsimp only; omega)
  | exact JE.round (s := (x, y, lm0, wb, wp, d1)) (x, mid, lm, _, ap, dr) ⟨hx, q1, by dsimp only; omega, by dsimp only; rw [hr1.1, q3]; exact hs3, (q7 dr hr1 hr2).1, fun R k1 k2 => hg1 R (Sort.permIn_trans _ _ _ _ _ hp3 ((q7 dr hr1 hr2).2 R k1 k2).1) ((q7 dr hr1 hr2).2 R k1 k2).2⟩ ⟨rfl, rfl, rfl, rfl, rfl, rfl, trivial⟩ (fun w h => h) (by dsimp only; omega)
end
end
section
open Go Go.SL
section
attribute [local irreducible] J JL JE JM LS Y Fc RV Code.wp wpList Code.wpIn wpListIn
attribute [local irreducible] Yc
attribute [local irreducible] Sort.ltInt
variable (E : World)
theorem insNilI (r : List HProp) : Fc prog E 106 [.slice none 0 0, .int .i64 0, .int .i64 0].toArray r (fun v l' => v = .tuple #[] ∧ l' = r) := by
 refine Fc.of_body (c := ?codeC) Tryd.func106 ?hb Tryd.ntmps106 ?hl ?_
 case hb => exact rfl
 case hl => exact rfl
 refine J.seq (J.region (JL.step (y_move rfl) rfl rfl rfl ?_))
 refine JL.step (y_add rfl rfl (by (first | exact wrap_i64 (by omega) (by omega) | rfl))) rfl rfl rfl ?_
 refine JL.step (y_assign rfl) rfl rfl rfl ?_
 refine JL.nil (JE.then_normal (J.block ?_))
 refine J.loop (α := Unit) (fun _ => True) (fun _ => [(2, .int .i64 0), (6, .int .i64 1)]) (fun _ => r) (fun _ => 0) () trivial ⟨rfl, rfl, trivial⟩ (fun w h => h) ?_
 rintro _ _
 refine J.seq (J.seq (J.region (JL.step (y_move rfl) rfl rfl rfl (JL.step (y_move rfl) rfl rfl rfl (JL.step (y_lss rfl rfl) rfl rfl rfl ?_)))))
 refine JL.nil (JE.then_normal ?_)
 refine J.cond_f rfl (by (first | rfl | assumption | (simp; done) | (simp; omega))) ?_
 refine J.exit (JE.then_exit (JE.then_exit (JE.block_exit ?_)))
 refine JE.ret0 (.inr rfl) rfl rfl  ?_
 exact ⟨rfl, rfl⟩
theorem pdqNilI (lim : Int) (r : List HProp) : Fc prog E 78 [.slice none 0 0, .int .i64 0, .int .i64 0, .int .i64 lim].toArray r (fun v l' => v = .tuple #[] ∧ l' = r) := by
 refine Fc.of_body (c := ?codeC) Tryd.func78 ?hb Tryd.ntmps78 ?hl ?_
 case hb => exact rfl
 case hl => exact rfl
 refine J.seq (J.region (JL.step (y_assign rfl) rfl rfl rfl ?_))
 refine JL.nil (JE.then_normal (J.seq (J.region (JL.step (y_assign rfl) rfl rfl rfl ?_))))
 refine JL.nil (JE.then_normal (J.block ?_))
 refine J.loop (α := Unit) (fun _ => True) (fun _ => [(0, .slice none 0 0), (1, .int .i64 0), (2, .int .i64 0)]) (fun _ => r) (fun _ => 0) () trivial ⟨rfl, rfl, rfl, trivial⟩ (fun w h => h) ?_
 rintro _ _
 refine J.block (J.seq (J.region (JL.step (y_move rfl) rfl rfl rfl (JL.step (y_move rfl) rfl rfl rfl ?_))))
 refine JL.step (y_sub rfl rfl (by (first | exact wrap_i64 (by omega) (by omega) | rfl))) rfl rfl rfl ?_
 refine JL.step (y_assign rfl) rfl rfl rfl ?_
 refine JL.nil (JE.then_normal (J.seq (J.seq (J.region (JL.step (y_move rfl) rfl rfl rfl (JL.step (y_leq rfl rfl) rfl rfl rfl ?_))))))
 refine JL.nil (JE.then_normal ?_)
 refine J.cond_t rfl (by (first | rfl | assumption | (simp; done) | (simp; omega))) ?_
 refine J.seq (J.region (JL.step (y_move rfl) rfl rfl rfl (JL.step (y_move rfl) rfl rfl rfl (JL.step (y_move rfl) rfl rfl rfl ?_))))
 refine JL.loud rfl (l_callF e106 rfl rfl (insNilI E _) ?_)
 rintro _ _ ⟨rfl, rfl⟩
 refine JL.nil (JE.then_normal (J.ret (JE.then_ret (JE.block_ret (JE.then_ret (JE.block_ret ?_))))))
 refine JE.ret0 (.inl rfl) rfl rfl  ?_
 exact ⟨rfl, rfl⟩
theorem sortNilI (r : List HProp) : Fc prog E 68 [.slice none 0 0].toArray r (fun v l' => v = .tuple #[] ∧ l' = r) := by
 refine Fc.of_body (c := ?codeC) Tryd.func68 ?hb Tryd.ntmps68 ?hl ?_
 case hb => exact rfl
 case hl => exact rfl
 refine J.seq (J.region (JL.step (y_move rfl) rfl rfl rfl (JL.step (y_len_slice hT rfl rfl rfl) rfl rfl rfl (JL.step (y_assign rfl) rfl rfl rfl ?_))))
 refine JL.nil (JE.then_normal (J.region (JL.step (y_move rfl) rfl rfl rfl (JL.step (y_move rfl) rfl rfl rfl (JL.step (y_move rfl) rfl rfl rfl ?_)))))
 refine JL.step (y_conv (m := 0) hT rfl rfl rfl rfl rfl) rfl rfl rfl ?_
 refine JL.loud rfl (l_callF e74 rfl rfl (lenU E _ 0 _ rfl (by omega)) ?_)
 rintro _ _ ⟨k, rfl, _, _, rfl⟩
 refine JL.loud rfl (l_callF e78 rfl rfl (pdqNilI E _ _) ?_)
 rintro _ _ ⟨rfl, rfl⟩
 refine JL.nil ?_
 all_goals
  refine JE.ret0 (.inr rfl) rfl rfl  ?_
  exact ⟨rfl, rfl⟩
theorem sortRowI (hS : Sort.SWO Sort.ltInt) (g c n : Nat) (d : Array Int) (sp : List Value) (r : List HProp) (hn : d.size = n) (h63 : n < 4611686018427387904) :
 Fc prog E 68 [.slice (some ⟨g, 0, none⟩) n c].toArray (arI g d sp :: r) (fun v l' => v = .tuple #[] ∧ ∃ d', Sort.PermIn 0 n d d' ∧ Sort.SortedIn Sort.ltInt 0 n d' ∧ l' = arI g d' sp :: r) := by
 refine Fc.post ?_
 refine Fc.of_body (c := ?codeC) Tryd.func68 ?hb Tryd.ntmps68 ?hl ?_
 case hb => exact rfl
 case hl => exact rfl
 refine J.seq (J.region (JL.step (y_move rfl) rfl rfl rfl (JL.step (y_len_slice hT rfl rfl rfl) rfl rfl rfl (JL.step (y_assign rfl) rfl rfl rfl ?_))))
 refine JL.nil (JE.then_normal (J.region (JL.step (y_move rfl) rfl rfl rfl (JL.step (y_move rfl) rfl rfl rfl (JL.step (y_move rfl) rfl rfl rfl ?_)))))
 refine JL.step (y_conv (m := (n : Int)) hT rfl rfl rfl rfl (wrap_u64n (by omega))) rfl rfl rfl ?_
 refine JL.loud rfl (l_callF e74 rfl rfl (lenU E _ n _ rfl (by omega)) ?_)
 rintro _ _ ⟨k, rfl, _, _, rfl⟩
 refine JL.loud rfl (l_callF e78 rfl rfl (Fc.on (Split.cons (by (repeat (first | exact Pick.head | apply Pick.tail | apply Pick.app))) Split.nil) (pdqI E hS (n - 0) g c n 0 n _ _ _ d sp _ (Nat.le_refl _) rfl rfl hn (Nat.zero_le _) (Nat.le_refl _) (.inl rfl) h63)) ?_)
 rintro _ _ ⟨rfl, d2, h1, h2, rfl⟩
 refine JL.nil ?_
 all_goals
  refine JE.ret0 (.inr rfl) rfl rfl  ?_
  exact ⟨_, fun w h => h, rfl, d2, h1, h2, rfl⟩
theorem sortI (hS : Sort.SWO Sort.ltInt) (n : Nat) (v : Value) (zs : List Int) (r : List HProp) (hz : zs.length = n) (h63 : n < 4611686018427387904) :
 Fc prog E 68 [v].toArray (own 3 1 v n (zs.map (Value.int .i64)) :: r) (fun u l' => u = .tuple #[] ∧ ∃ ys : List Int, ys.Perm zs ∧ (ys.Pairwise fun x y => Sort.ltInt y x = false) ∧ l' = own 3 1 v n (ys.map (Value.int .i64)) :: r) := by
 refine Fc.owns (fun e1 e2 e3 => ?_) (fun g cap sp e1 h1 h2 h3 h4 => ?_)
 · subst e1 e2
   obtain rfl : zs = [] := List.eq_nil_of_length_eq_zero hz
   exact Fc.post ((sortNilI E r).mono fun u l' ⟨a, b⟩ => ⟨own 3 1 (.slice none 0 0) 0 [] :: r, fun w h => Sat.own_nil (b ▸ h), a, [], List.Perm.refl _, List.Pairwise.nil, rfl⟩)
 · subst e1
   have hd : zs.toArray.size = n := by simpa using hz
   refine Fc.post (((sortRowI E hS g cap n zs.toArray sp r hd h63).imp fun w s => ?_).mono fun u l' ⟨a, d', p1, p2, b⟩ => ?_)
   · have e : zs.map (Value.int .i64) = zs.toArray.toList.flatMap fun x => [(Value.int .i64) x] := List.map_eq_flatMap
     rw [e] at s
     exact s
   · have hl : d'.toList.length = n := by rw [Array.length_toList, p1.1]; exact hd
     refine ⟨own 3 1 (.slice (some ⟨g, 0, none⟩) n cap) n (d'.toList.map (Value.int .i64)) :: r, fun w h => ?_, a, d'.toList, perm_in hd p1, sorted_in (p1.1.trans hd) p2, rfl⟩
     have e : d'.toList.map (Value.int .i64) = d'.toList.flatMap fun x => [(Value.int .i64) x] := List.map_eq_flatMap
     have s : Sat E (stars (row g 3 (d'.toList.map (Value.int .i64) ++ sp) :: r)) w := by
      rw [e]
      rw [b] at h
      exact h
     refine s.owned h1 h2 (by rw [List.length_map, hl, Nat.mul_one]) ?_
     rw [List.length_append, List.length_map] at h4 ⊢
     omega
end
end
section
open Go Go.SL
section
attribute [local irreducible] J JL JE JM LS Y Fc RV Code.wp wpList Code.wpIn wpListIn
attribute [local irreducible] Yc Sort.ltInt
variable (E : World)
def IterI (fi : FuncId) (b N : Nat) (Q : List Int → Prop) (A : HProp) (l : List HProp) : Prop :=
 ∀ (k : Nat) (St : List Int → List HProp), (∀ (fr : List HProp) (vs : List Int) (a : Int), vs.length < N → Yc prog E k [Value.int .i64 a].toArray (St vs ++ fr) (fun v l' => v = .bool true ∧ l' = St (vs ++ [a]) ++ fr)) →
  Fc prog E fi [.func (.yield k) #[] #[], Value.pointer (some ⟨b, 0, none⟩)].toArray (A :: (St [] ++ l)) (fun _ l' => ∃ vs, Q vs ∧ l' = A :: (St vs ++ l))
def numsI (bo : Nat) (vs : List Int) : HProp := pk fun q : Option Addr × Nat => [row bo 45 [.slice q.1 vs.length q.2], own 3 1 (.slice q.1 vs.length q.2) vs.length (vs.map (Value.int .i64))]
theorem aseqI {fi : FuncId} {b N : Nat} {Q : List Int → Prop} {A : HProp} {l : List HProp} (eF : Ent prog fi) (hI : IterI E fi b N Q A l) (hN : N ≤ 1000000) :
 Fc prog E 77 [.slice none 0 0, .func (.func fi) #[] [Value.pointer (some ⟨b, 0, none⟩)].toArray].toArray (A :: l)
  (fun v l' => ∃ (vs : List Int) (a : Option Addr) (c : Nat), Q vs ∧ v = .slice a vs.length c ∧ l' = own 3 1 v vs.length (vs.map (Value.int .i64)) :: A :: l) := by
 refine Fc.post ?_
 refine Fc.of_bodyM (c := ?codeC) Tryd.func77 ?hb Tryd.ntmps77 ?hl ?_
 case hb => exact rfl
 case hl => exact rfl
 refine J.seq (J.region ?_)
 refine JL.loud rfl (l_box rfl (by (first | rfl | simp)) rfl (fun b1 => ?_))
 refine JL.step (y_assign rfl) rfl rfl rfl ?_
 refine JL.nil (JE.then_normal (J.seq (J.seq (J.region (JL.step (y_move rfl) rfl rfl rfl ?_)))))
 refine JL.nil (JE.then_normal (J.block ?_))
 refine J.rangeFunc eF rfl fun fn a0 k DD K hK hf0 => ?_
 refine Fc.mono (Fc.imp (hI k (fun vs => [numsI b1 vs, K .ready none, blk DD (.deferred (some []))]) (fun fr vs a hlt => ?hy)) ?hi) ?hm
 case hi =>
  intro w s
  have s2 := s.own_nil (e := 3) (size := 1)
  have s3 := s2.divide (p := [row b1 45 [.slice none 0 0], own 3 1 (.slice none 0 0) 0 []]) (Split.cons (by (repeat (first | exact Pick.head | apply Pick.tail | apply Pick.app))) (Split.cons (by (repeat (first | exact Pick.head | apply Pick.tail | apply Pick.app))) Split.nil))
  have s5 : Sat E (stars (numsI b1 [] :: _)) w := s3.topk (none, 0)
  exact s5.sup (by (repeat (first | exact Sup.refl | apply Sup.cons (by (repeat (first | exact Pick.head | apply Pick.tail | apply Pick.app))) | apply Sup.app | apply Sup.skip | apply Sup.skips)))
 case hy =>
  unfold numsI
  refine Yc.split (p := [pk _]) (Yc.pks fun q => ?_) (Split.cons Pick.head Split.nil)
  obtain ⟨qa, qc⟩ := q
  dsimp only
  refine Yc.split (p := [K .ready none]) ?_ (Split.cons (by (repeat (first | exact Pick.head | apply Pick.tail | apply Pick.app))) Split.nil)
  refine Yc.post ?_
  refine Yc.of_body hK hf0 rfl (by decide) ?_
  refine J.region (JL.step (y_assign rfl) rfl rfl rfl ?_)
  refine JL.nil ?_
  refine JE.assigned (by (repeat (first | exact Pick.head | apply Pick.tail | apply Pick.app))) ?_
  refine J.block (J.region ?_)
  refine JL.step (y_load1 hT rfl rfl rfl (by (exact Rd1.row (by (repeat (first | exact Pick.head | apply Pick.tail | apply Pick.app))) (by rfl)))) rfl rfl rfl ?_
  refine JL.step (y_move rfl) rfl rfl rfl ?_
  refine JL.loud rfl (l_buildSliceP hT rfl rfl rfl rfl rfl rfl rfl (by (first | exact fill_one rfl (by first | assumption | rfl | (simp; done)) | rfl | simp)) rfl (fun b2 => ?_))
  refine JL.loud rfl (l_append hT rfl rfl rfl rfl rfl rfl rfl rfl (by (repeat (first | exact Pick.head | apply Pick.tail | apply Pick.app))) (by (first | exact RdN.rowAll (by (repeat (first | exact Pick.head | apply Pick.tail | apply Pick.app))) | exact RdN.own (by (repeat (first | exact Pick.head | apply Pick.tail | apply Pick.app))))) (by (first | rfl | assumption | (simp; done) | omega)) (by (first | assumption | exact ones_of rfl | exact encW_one _ | exact encB_one _ | (intro u hu; simp at hu; rcases hu with rfl | rfl <;> rfl) | (intro u hu; simp at hu; subst hu; rfl) | simp)) (by rw [show i3.bytes = 8 from rfl]; omega) (by omega) rfl (fun na nc hnc => ?_))
  refine JL.loud rfl (l_store1 hT rfl rfl rfl rfl rfl (by (repeat (first | exact Pick.head | apply Pick.tail | apply Pick.app))) (by (first | omega | exact Nat.le_of_ble_eq_true rfl | decide | (simp; omega))) ?_)
  refine JL.nil (JE.block_normal ?_)
  all_goals
   refine JE.round_on hK (by (repeat (first | exact Pick.head | apply Pick.tail | apply Pick.app))) ?_
   refine ⟨[numsI b1 (vs ++ [a]), K .ready none, blk DD (.deferred (some []))] ++ fr, fun w q => ?_, rfl, rfl⟩
   have q1 := q.sup (p := row b1 45 [.slice na (vs.length + 1) nc] :: own 3 1 (.slice na (vs.length + 1) nc) (vs.length + 1) (vs.map (Value.int .i64) ++ [(Value.int .i64) a]) :: K .ready none :: blk DD (.deferred (some [])) :: fr) (by (repeat (first | exact Sup.refl | apply Sup.cons (by (repeat (first | exact Pick.head | apply Pick.tail | apply Pick.app))) | apply Sup.app | apply Sup.skip | apply Sup.skips)))
   refine Sat.topk (F := fun q : Option Addr × Nat => [row b1 45 [.slice q.1 (vs ++ [a]).length q.2], own 3 1 (.slice q.1 (vs ++ [a]).length q.2) (vs ++ [a]).length ((vs ++ [a]).map (Value.int .i64))]) (na, nc) ?_
   dsimp only
   rw [List.length_append, List.map_append]
   exact q1
 case hm =>
  rintro _ _ ⟨vs, hvp, rfl⟩
  refine ⟨.ready, none, _, by (repeat (first | exact Pick.head | apply Pick.tail | apply Pick.app)), by simp, ?_⟩
  dsimp only
  unfold numsI
  refine JE.picks (Pick.tail Pick.head) (JE.pks fun q => ?_)
  obtain ⟨qa, qc⟩ := q
  dsimp only
  refine JE.block_normal (JE.then_normal (J.seq (J.region ?_)))
  refine JL.step (y_load1 hT rfl rfl rfl (by (exact Rd1.row (by (repeat (first | exact Pick.head | apply Pick.tail | apply Pick.app))) (by rfl)))) rfl rfl rfl ?_
  refine JL.step (y_assign rfl) rfl rfl rfl ?_
  refine JL.nil (JE.then_normal (J.ret ?_))
  first | refine JE.unmark (.inl rfl) rfl (by (repeat (first | exact Pick.head | apply Pick.tail | apply Pick.app))) ?_ | refine JE.nomark (.inl rfl) rfl ?_
  refine JE.ret1 (.inl rfl) rfl rfl (by (first | exact RV.tmp rfl | exact RV.cell1 hT rfl rfl rfl (by (exact Rd1.row (by (repeat (first | exact Pick.head | apply Pick.tail | apply Pick.app))) (by rfl))) | exact RV.cellN hT rfl rfl rfl (by (first | exact RdN.rowAll (by (repeat (first | exact Pick.head | apply Pick.tail | apply Pick.app))) | exact RdN.own (by (repeat (first | exact Pick.head | apply Pick.tail | apply Pick.app))))) (by (first | rfl | assumption | (simp; done) | omega)))) ?_
  exact ⟨_, fun w h => h.sup (by (repeat (first | exact Sup.refl | apply Sup.cons (by (repeat (first | exact Pick.head | apply Pick.tail | apply Pick.app))) | apply Sup.app | apply Sup.skip | apply Sup.skips))), vs, qa, qc, hvp, rfl, rfl⟩
theorem collectI {fi : FuncId} {b N : Nat} {Q : List Int → Prop} {A : HProp} {l : List HProp} (eF : Ent prog fi) (hI : IterI E fi b N Q A l) (hN : N ≤ 1000000) :
 Fc prog E 67 [.func (.func fi) #[] [Value.pointer (some ⟨b, 0, none⟩)].toArray].toArray (A :: l)
  (fun v l' => ∃ (vs : List Int) (a : Option Addr) (c : Nat), Q vs ∧ v = .slice a vs.length c ∧ l' = own 3 1 v vs.length (vs.map (Value.int .i64)) :: A :: l) := by
 refine Fc.post ?_
 refine Fc.of_body (c := ?codeC) Tryd.func67 ?hb Tryd.ntmps67 ?hl ?_
 case hb => exact rfl
 case hl => exact rfl
 refine J.seq (J.region (JL.step (y_assign rfl) rfl rfl rfl ?_))
 refine JL.nil (JE.then_normal (J.seq (J.region (JL.step (y_move rfl) rfl rfl rfl ?_))))
 refine JL.loud rfl (l_callF e77 rfl rfl (aseqI E eF hI hN) ?_)
 rintro _ _ ⟨vs, a, c, h1, rfl, rfl⟩
 refine JL.step (y_assign rfl) rfl rfl rfl ?_
 refine JL.nil (JE.then_normal (J.ret ?_))
 refine JE.ret1 (.inl rfl) rfl rfl (by (first | exact RV.tmp rfl | exact RV.cell1 hT rfl rfl rfl (by (exact Rd1.row (by (repeat (first | exact Pick.head | apply Pick.tail | apply Pick.app))) (by rfl))) | exact RV.cellN hT rfl rfl rfl (by (first | exact RdN.rowAll (by (repeat (first | exact Pick.head | apply Pick.tail | apply Pick.app))) | exact RdN.own (by (repeat (first | exact Pick.head | apply Pick.tail | apply Pick.app))))) (by (first | rfl | assumption | (simp; done) | omega)))) ?_
 exact ⟨_, fun w h => h.sup (by (repeat (first | exact Sup.refl | apply Sup.cons (by (repeat (first | exact Pick.head | apply Pick.tail | apply Pick.app))) | apply Sup.app | apply Sup.skip | apply Sup.skips))), vs, a, c, h1, rfl, rfl⟩
theorem sortedI {fi : FuncId} {b N : Nat} {Q : List Int → Prop} {A : HProp} {l : List HProp} (eF : Ent prog fi) (hI : IterI E fi b N Q A l) (hN : N ≤ 1000000) (hQ : ∀ vs, Q vs → vs.length ≤ N) :
 Fc prog E 51 [.func (.func fi) #[] [Value.pointer (some ⟨b, 0, none⟩)].toArray].toArray (A :: l)
  (fun v l' => ∃ (us vs : List Int) (a : Option Addr) (c : Nat), Q us ∧ vs.Perm us ∧ (vs.Pairwise fun x y => Sort.ltInt y x = false) ∧ v = .slice a vs.length c ∧ l' = own 3 1 v vs.length (vs.map (Value.int .i64)) :: A :: l) := by
 refine Fc.post ?_
 refine Fc.of_body (c := ?codeC) Tryd.func51 ?hb Tryd.ntmps51 ?hl ?_
 case hb => exact rfl
 case hl => exact rfl
 refine J.seq (J.region (JL.step (y_assign rfl) rfl rfl rfl ?_))
 refine JL.nil (JE.then_normal (J.seq (J.region (JL.step (y_move rfl) rfl rfl rfl ?_))))
 refine JL.loud rfl (l_callF e67 rfl rfl (collectI E eF hI hN) ?_)
 rintro _ _ ⟨us, a, c, h1, rfl, rfl⟩
 refine JL.step (y_assign rfl) rfl rfl rfl ?_
 refine JL.nil (JE.then_normal (J.seq (J.region ?_)))
 have hvl := hQ us h1
 refine JL.step (y_move rfl) rfl rfl rfl ?_
 refine JL.loud rfl (l_callF e68 rfl rfl (Fc.on (Split.cons (by (repeat (first | exact Pick.head | apply Pick.tail | apply Pick.app))) Split.nil) (sortI E Sort.swo_ltInt us.length _ us _ rfl (by omega))) ?_)
 rintro _ _ ⟨rfl, ys, h2, h3, rfl⟩
 refine JL.nil (JE.then_normal (J.seq (J.region (JL.step (y_move rfl) rfl rfl rfl (JL.step (y_assign rfl) rfl rfl rfl ?_)))))
 refine JL.nil (JE.then_normal (J.ret ?_))
 refine JE.ret1 (.inl rfl) rfl rfl (by (first | exact RV.tmp rfl | exact RV.cell1 hT rfl rfl rfl (by (exact Rd1.row (by (repeat (first | exact Pick.head | apply Pick.tail | apply Pick.app))) (by rfl))) | exact RV.cellN hT rfl rfl rfl (by (first | exact RdN.rowAll (by (repeat (first | exact Pick.head | apply Pick.tail | apply Pick.app))) | exact RdN.own (by (repeat (first | exact Pick.head | apply Pick.tail | apply Pick.app))))) (by (first | rfl | assumption | (simp; done) | omega)))) ?_
 rw [← h2.length_eq]
 exact ⟨_, fun w h => h.sup (by (repeat (first | exact Sup.refl | apply Sup.cons (by (repeat (first | exact Pick.head | apply Pick.tail | apply Pick.app))) | apply Sup.app | apply Sup.skip | apply Sup.skips))), us, ys, a, c, h1, h2, h3, rfl, rfl⟩
end
end
section
open Go Go.SL
section
def wi77 : WireT := (77, 0, 0, 0, 0)
theorem wis_len (ws : List WireT) : (ws.flatMap wiE).length = ws.length * 5 := seg_len fun x _ => wiE_length x
theorem wis_one (ws : List WireT) : ∀ u ∈ ws.flatMap wiE, u.oneCell' = true := by
 intro u hu
 obtain ⟨w, _, h⟩ := List.mem_flatMap.1 hu
 simp only [wiE, List.mem_cons, List.not_mem_nil, or_false] at h
 rcases h with rfl | rfl | rfl | rfl | rfl <;> rfl
def wiK : List CK := [.int .i64, .int .i64, .int .i64, .int .i64, .int .i64]
theorem wi_fits (w : WireT) : Fits wiK (wiE w) := ⟨⟨_, rfl⟩, ⟨_, rfl⟩, ⟨_, rfl⟩, ⟨_, rfl⟩, ⟨_, rfl⟩, trivial⟩
end
section
attribute [local irreducible] J JL JE JM LS Y Fc RV Code.wp wpList Code.wpIn wpListIn
attribute [local irreducible] Yc
variable (E : World)
theorem cut_spec (p : Option Addr) (n c m : Nat) (ws : List WireT) (l : List HProp) (hn : ws.length = n) (hm : m = min n 120) (hin : InL l p n c (ws.flatMap wiE)) :
 Fc prog E 12 [.slice p n c].toArray l (fun v l' => ∃ (a : Option Addr) (c' : Nat), m + 1 ≤ c' ∧ v = .slice a m c' ∧ l' = own 38 5 (.slice a (m + 1) c') (m + 1) ((ws.take m).flatMap wiE ++ wiE wi77) :: l) := by
 refine Fc.post ?_
 refine Fc.of_body (c := ?codeC) Tryd.func12 ?hb Tryd.ntmps12 ?hl ?_
 case hb => exact rfl
 case hl => exact rfl
 refine J.seq (J.region (JL.step (y_assign rfl) rfl rfl rfl ?_))
 refine JL.nil (JE.then_normal (J.seq ?_))
 obtain ⟨gb, ob, hp0, hpt⟩ := hin.part (lo := 0) (hi := m) (k := 5) (Nat.zero_le _) (by omega) (by rw [wis_len, hn])
 have hle := hin.le
 refine J.region (JL.step (y_move rfl) rfl rfl rfl (JL.step (y_move rfl) rfl rfl rfl (JL.step (y_len_slice hT rfl rfl rfl) rfl rfl rfl ?_)))
 refine JL.step (v := .int .i64 (m : Int)) (y_min2 rfl rfl (by omega)) rfl rfl rfl ?_
 refine JL.step (y_slice (lo := 0) (hi := m) hT rfl rfl rfl rfl (.inl ⟨rfl, rfl⟩) (.inr ⟨_, _, _, rfl, rfl, rfl⟩) (by omega) (by omega) hin.le hp0) rfl rfl rfl ?_
 refine JL.step (y_assign rfl) rfl rfl rfl ?_
 refine JL.nil (JE.then_normal (J.seq ?_))
 obtain ⟨q, hq⟩ : ∃ q, (if c = 0 then p else some ⟨gb, ob + 0 * i38.size, none⟩) = q := ⟨_, rfl⟩
 obtain ⟨c2, hc2⟩ : ∃ c2, c - 0 = c2 := ⟨_, rfl⟩
 have e0 : ((ws.flatMap wiE).drop (0 * 5)).take ((m - 0) * 5) = (ws.take m).flatMap wiE := by rw [Nat.zero_mul, List.drop_zero, Nat.sub_zero, seg_take fun x _ => wiE_length x]
 have hxm : (ws.take m).length = m := by rw [List.length_take]; omega
 rw [e0, Nat.sub_zero, hc2] at hpt
 rw [Nat.sub_zero, hc2]
 have hin2 : InL l q m c2 ((ws.take m).flatMap wiE) := by rw [← hq]; exact hpt
 rw [hq]
 obtain ⟨zs, hzs⟩ : ∃ zs, ws.take m = zs := ⟨_, rfl⟩
 rw [hzs] at hin2 hxm ⊢
 refine J.region (JL.step (y_move rfl) rfl rfl rfl (JL.step (y_len_slice hT rfl rfl rfl) rfl rfl rfl ?_))
 refine JL.step (y_add rfl rfl (by (first | exact wrap_i64 (by omega) (by omega) | rfl))) rfl rfl rfl ?_
 refine JL.loud rfl (l_makeSlice hT rfl rfl rfl rfl rfl rfl (by omega) (by omega) (mk_fits rfl (by omega) (by omega)) (by omega) rfl (fun b3 => ?_))
 refine JL.step (y_move rfl) rfl rfl rfl ?_
 refine JL.pre (l' := own 38 5 (.slice (some ⟨b3, 0, none⟩) 0 (m + 2)) 0 [] :: l) (fun w s => s.own_row (Nat.zero_le _) (by unfold maxLen; omega) (by
  show (madeCells _ (((m : Int) + 2).toNat * 5)).toList.length = _
  rw [Array.length_toList, size_madeCells]
  · omega) (by simp) (by simp)) ?_
 refine JL.loud rfl (l_appendIn hT rfl rfl rfl rfl rfl rfl rfl rfl (by (repeat (first | exact Pick.head | apply Pick.tail | apply Pick.app))) (hin2.cons _) (by rw [show i38.size = 5 from rfl, wis_len, hxm]) (wis_one zs) (by rw [show i38.bytes = 40 from rfl]; omega) (by omega) rfl (fun a5 c5 hc5 => ?_))
 refine JL.step (y_build (cs := [_, _, _, _, _]) hT rfl rfl rfl rfl rfl rfl ⟨⟨(by (first | rfl | assumption | (simp; done) | omega)), Nat.le_of_ble_eq_true rfl⟩, trivial⟩ rfl) rfl rfl rfl ?_
 refine JL.loud rfl (l_buildSliceP hT rfl rfl rfl rfl rfl rfl rfl (by (first | exact fill_one rfl (by first | assumption | rfl | (simp; done)) | rfl | simp)) rfl (fun b1 => ?_))
 refine JL.loud rfl (l_append hT rfl rfl rfl rfl rfl rfl rfl rfl (by (repeat (first | exact Pick.head | apply Pick.tail | apply Pick.app))) (by (first | exact RdN.rowAll (by (repeat (first | exact Pick.head | apply Pick.tail | apply Pick.app))) | exact RdN.own (by (repeat (first | exact Pick.head | apply Pick.tail | apply Pick.app))))) (by (first | rfl | assumption | (simp; done) | omega)) (wis_one [wi77]) (by rw [show i38.bytes = 40 from rfl]; omega) (by omega) rfl (fun a8 c8 hc8 => ?_))
 refine JL.step (y_move rfl) rfl rfl rfl (JL.step (y_len_slice hT rfl rfl rfl) rfl rfl rfl ?_)
 refine JL.fact (fun w s => Sat.own_at (s.pick Pick.head)) fun oo => ?_
 refine JL.step (y_cutTo hT rfl rfl rfl rfl rfl rfl (by omega) (oo.inl (e := 38) (size := 5) (l := [_]) Pick.head)) rfl rfl rfl ?_
 refine JL.step (y_assign rfl) rfl rfl rfl ?_
 refine JL.nil (JE.then_normal (J.ret ?_))
 refine JE.ret1 (.inl rfl) rfl rfl (by (first | exact RV.tmp rfl | exact RV.cell1 hT rfl rfl rfl (by (exact Rd1.row (by (repeat (first | exact Pick.head | apply Pick.tail | apply Pick.app))) (by rfl))) | exact RV.cellN hT rfl rfl rfl (by (first | exact RdN.rowAll (by (repeat (first | exact Pick.head | apply Pick.tail | apply Pick.app))) | exact RdN.own (by (repeat (first | exact Pick.head | apply Pick.tail | apply Pick.app))))) (by (first | rfl | assumption | (simp; done) | omega)))) ?_
 refine ⟨own 38 5 (.slice a8 (m + 1) c8) (m + 1) (zs.flatMap wiE ++ wiE wi77) :: l, fun w h => ?_, a8, c8, by omega, rfl, rfl⟩
 rw [Nat.zero_add] at h
 exact h.sup (by (repeat (first | exact Sup.refl | apply Sup.cons (by (repeat (first | exact Pick.head | apply Pick.tail | apply Pick.app))) | apply Sup.app | apply Sup.skip | apply Sup.skips)))
theorem kept_spec (a q : Option Addr) (m c' c2 : Nat) (ws : List WireT) (l : List HProp) (hm : ws.length = m) (hm8 : m ≤ 1000000) (hcap : m + 1 ≤ c') (hin : InL l q m c2 (ws.flatMap wiE)) (hown : InL l a (m + 1) c' (ws.flatMap wiE ++ wiE wi77)) :
 Fc prog E 17 [.slice a m c', .slice q m c2].toArray l (fun v l' => v = .bool true ∧ l' = l) := by
 refine Fc.eqs ?_
 have ha := hown.cutTo m (m * 5) (by omega)
 rw [List.take_left' (by rw [wis_len, hm])] at ha
 refine Fc.of_body (c := ?codeC) Tryd.func17 ?hb Tryd.ntmps17 ?hl ?_
 case hb => exact rfl
 case hl => exact rfl
 refine J.seq (J.region (JL.step (y_assign rfl) rfl rfl rfl ?_))
 refine JL.nil (JE.then_normal (J.seq (J.seq (J.region (JL.step (y_move rfl) rfl rfl rfl (JL.step (y_len_slice hT rfl rfl rfl) rfl rfl rfl (JL.step (y_move rfl) rfl rfl rfl ?_)))))))
 refine JL.nil (JE.then_normal (J.block ?_))
 refine J.loop (α := Nat) (fun i => i ≤ m) (fun i => [(0, .slice a m c'), (1, .slice q m c2), (7, .int .i64 m), (8, .int .i64 i)]) (fun _ => l) (fun i => m - i) 0 (Nat.zero_le _) ⟨rfl, rfl, rfl, rfl, trivial⟩ (fun w h => h) ?_
 intro i hi
 try dsimp only
 refine J.seq (J.region (JL.step (y_lss rfl rfl) rfl rfl rfl ?_))
 refine JL.nil (JE.then_normal (J.seq ?_))
 first | apply J.cond_dec rfl | apply J.cond rfl
 case' ht =>
  intro h
  try (first | (exfalso; omega) | (cases h; done) | (exfalso; simp at h; done) | subst h)
  all_goals
   refine J.skip ?_
 case' hf =>
  intro h
  try (first | (exfalso; omega) | (cases h; done) | (exfalso; simp at h; done) | subst h)
  all_goals
   refine J.exit (JE.then_exit (JE.then_exit (JE.block_exit (JE.then_normal (J.seq ?_)))))
   obtain ⟨g, o, rfl, hr⟩ := hown.addr (by omega)
   refine J.region (JL.step (y_move rfl) rfl rfl rfl (JL.step (y_len_slice hT rfl rfl rfl) rfl rfl rfl (JL.step (y_move rfl) rfl rfl rfl (JL.step (y_len_slice hT rfl rfl rfl) rfl rfl rfl (JL.step (y_eql rfl rfl) rfl rfl rfl (JL.step (y_move rfl) rfl rfl rfl ?_))))))
   all_goals (first | (refine JL.gsplit_dec rfl rfl rfl (fun h => ?_) (fun h => ?_) <;> try (first | (exfalso; omega) | exact absurd rfl h)) | (refine JL.gsplit rfl rfl rfl (fun h => ?_) (fun h => ?_) <;> try (first | cases h | (exfalso; simp at h; done))) | skip)
   all_goals (first | refine JL.gskip rfl rfl rfl rfl rfl rfl ?_ | refine JL.gskipU rfl rfl rfl rfl rfl ?_ | refine JL.gstep rfl rfl rfl (y_move rfl) rfl rfl ?_)
   all_goals (first | refine JL.gskip rfl rfl rfl rfl rfl rfl ?_ | refine JL.gskipU rfl rfl rfl rfl rfl ?_ | refine JL.gstep rfl rfl rfl (y_move rfl) rfl rfl ?_)
   all_goals (first | refine JL.gskip rfl rfl rfl rfl rfl rfl ?_ | refine JL.gskipU rfl rfl rfl rfl rfl ?_ | refine JL.gstep rfl rfl rfl (y_len_slice hT rfl rfl rfl) rfl rfl ?_)
   all_goals (first | refine JL.gskip rfl rfl rfl rfl rfl rfl ?_ | refine JL.gskipU rfl rfl rfl rfl rfl ?_ | refine JL.gstep rfl rfl rfl (y_add rfl rfl (by (first | exact wrap_i64 (by omega) (by omega) | rfl))) rfl rfl ?_)
   all_goals (first | refine JL.gskip rfl rfl rfl rfl rfl rfl ?_ | refine JL.gskipU rfl rfl rfl rfl rfl ?_ | refine JL.gstep rfl rfl rfl (v := .slice (some ⟨g, o, none⟩) (m + 1) c') (Y.cast (y_slice (lo := 0) (hi := m + 1) hT rfl rfl rfl rfl (.inl ⟨rfl, rfl⟩) (.inr ⟨_, _, _, rfl, rfl, rfl⟩) (by omega) (by omega) (by omega) (.inl rfl)) (by rw [if_neg (by omega)]; simp)) rfl rfl ?_)
   all_goals (first | refine JL.gskip rfl rfl rfl rfl rfl rfl ?_ | refine JL.gskipU rfl rfl rfl rfl rfl ?_ | refine JL.gstep rfl rfl rfl (y_move rfl) rfl rfl ?_)
   all_goals (first | refine JL.gskip rfl rfl rfl rfl rfl rfl ?_ | refine JL.gskipU rfl rfl rfl rfl rfl ?_ | refine JL.gstep rfl rfl rfl (y_len_slice hT rfl rfl rfl) rfl rfl ?_)
   all_goals (first | refine JL.gskip rfl rfl rfl rfl rfl rfl ?_ | refine JL.gskipU rfl rfl rfl rfl rfl ?_ | refine JL.gstep rfl rfl rfl (y_indexAddr_slice hT rfl rfl rfl rfl rfl (by (first | omega | exact Nat.le_of_ble_eq_true rfl | decide | (simp; omega))) (by (first | omega | exact Nat.le_of_ble_eq_true rfl | decide | (simp; omega)))) rfl rfl ?_)
   all_goals (first | refine JL.gskip rfl rfl rfl rfl rfl rfl ?_ | refine JL.gskipU rfl rfl rfl rfl rfl ?_ | refine JL.gstep rfl rfl rfl (y_fieldAddr hT rfl rfl rfl rfl rfl rfl) rfl rfl ?_)
   all_goals (first | refine JL.gskip rfl rfl rfl rfl rfl rfl ?_ | refine JL.gskipU rfl rfl rfl rfl rfl ?_ | refine JL.gstep rfl rfl rfl (y_load1 hT rfl rfl rfl (Rd1.ofN (v := .int .i64 77) (j := m * 5) (hr []) (by rw [List.getElem?_append_right (by rw [wis_len, hm]; omega), wis_len, hm, Nat.sub_self]; rfl))) rfl rfl ?_)
   all_goals (first | refine JL.gskip rfl rfl rfl rfl rfl rfl ?_ | refine JL.gskipU rfl rfl rfl rfl rfl ?_ | refine JL.gstep rfl rfl rfl (y_eql rfl rfl) rfl rfl ?_)
   all_goals (refine JL.step (y_pick rfl rfl rfl) rfl rfl rfl ?_)
   all_goals (refine JL.step (y_assign rfl) rfl rfl rfl ?_)
   all_goals refine JL.nil (JE.then_normal ?_)
   all_goals
    refine J.ret ?_
    refine JE.ret1 (.inl rfl) rfl rfl (by (first | exact RV.tmp rfl | exact RV.cell1 hT rfl rfl rfl (by (exact Rd1.row (by (repeat (first | exact Pick.head | apply Pick.tail | apply Pick.app))) (by rfl))) | exact RV.cellN hT rfl rfl rfl (by (first | exact RdN.rowAll (by (repeat (first | exact Pick.head | apply Pick.tail | apply Pick.app))) | exact RdN.own (by (repeat (first | exact Pick.head | apply Pick.tail | apply Pick.app))))) (by (first | rfl | assumption | (simp; done) | omega)))) ?_
    exact ⟨rfl, fun w h => h⟩
 all_goals refine JE.then_normal ?_
 all_goals
  refine J.seq (J.block (J.seq (J.region (JL.step (y_move rfl) rfl rfl rfl (JL.step (y_assign rfl) rfl rfl rfl ?_)))))
  refine JL.nil (JE.then_normal (J.seq ?_))
  obtain ⟨x, hh⟩ : ∃ x, ws[i]? = some x := ⟨ws[i]'(by omega), List.getElem?_eq_getElem _⟩
  obtain ⟨g1, o1, rfl, hr1⟩ := ha.addr (by omega)
  obtain ⟨g2, o2, rfl, hr2⟩ := hin.addr (by omega)
  refine J.draw _ _ [(0, .q), (1, .q), (2, .q), (3, .q), (4, .q), (5, .q), (6, .q), (7, .q), (8, .q)] mixed (by kernel_rfl) (Split.nil) ?_
  refine JM.quiet rfl rfl rfl rfl (fun m => y_move rfl) (JM.quiet rfl rfl rfl rfl (fun m => y_move rfl) ?_)
  refine JM.quiet rfl rfl rfl rfl (fun m => y_indexAddr_slice hT rfl rfl rfl rfl rfl (by (first | omega | exact Nat.le_of_ble_eq_true rfl | decide | (simp; omega))) (by (first | omega | exact Nat.le_of_ble_eq_true rfl | decide | (simp; omega)))) ?_
  refine JM.quiet rfl rfl rfl rfl (fun m => y_loadN hT rfl rfl rfl (RdN.elem ((hr1 []).app m) (fun x _ => wiE_length x) hh) rfl) (JM.quiet rfl rfl rfl rfl (fun m => y_move rfl) (JM.quiet rfl rfl rfl rfl (fun m => y_move rfl) ?_))
  refine JM.quiet rfl rfl rfl rfl (fun m => y_indexAddr_slice hT rfl rfl rfl rfl rfl (by (first | omega | exact Nat.le_of_ble_eq_true rfl | decide | (simp; omega))) (by (first | omega | exact Nat.le_of_ble_eq_true rfl | decide | (simp; omega)))) ?_
  refine JM.quiet rfl rfl rfl rfl (fun m => y_loadN hT rfl rfl rfl (RdN.elem ((hr2 []).app m) (fun x _ => wiE_length x) hh) rfl) ?_
  refine JM.quiet rfl rfl rfl rfl (fun m => y_flat_ne (m := 3) (ks := wiK) (xs := wiE x) (ys := wiE x) (b := false) hT (by kernel_rfl) rfl (by kernel_rfl) (by kernel_rfl) rfl rfl rfl rfl (wi_fits x) (wi_fits x) ⟨fun q => (by cases q), fun q => absurd rfl q⟩) ?_
  refine JM.nil (JE.then_normal ?_)
  refine J.cond_f rfl (by (first | rfl | assumption | (simp; done) | (simp; omega))) ?_
  refine J.skip (JE.block_normal (JE.then_normal (J.region ?_)))
  refine JL.step (y_add rfl rfl (by (first | exact wrap_i64 (by omega) (by omega) | rfl))) rfl rfl rfl ?_
  refine JL.step (y_move rfl) rfl rfl rfl ?_
  refine JL.nil ?_
 all_goals
  exact JE.round (s := i) (i + 1) (by omega) ⟨rfl, rfl, rfl, rfl, trivial⟩ (fun w h => h) (by omega)
end
end
section
open Go Go.SL
section
attribute [local irreducible] J JL JE JM LS Y Fc RV Code.wp wpList Code.wpIn wpListIn
attribute [local irreducible] Yc
variable (E : World)
abbrev bMap (b mp : Nat) (M : List BurT) : HProp := pk fun _ : Unit => [row b 96 [.map (some mp)], mapA (Value.int .i64) (fun _ => True) mp (bmE M)]
theorem mkeysB_spec (l : List HProp) (v : Value) (hv : v.oneCell' = true) : Fc prog E 52 [v].toArray l (fun u l' => ∃ b, u = .func (.func 69) #[] [Value.pointer (some ⟨b, 0, none⟩)].toArray ∧ l' = row b 96 [v] :: l) := by
 have hvc : v.cells = [v].toArray := by cases v <;> simp_all [Value.cells, Value.oneCell']
 refine Fc.of_body (c := ?codeC) Tryd.func52 ?hb Tryd.ntmps52 ?hl ?_
 case hb => exact rfl
 case hl => exact rfl
 refine J.seq (J.region ?_)
 refine JL.loud rfl (l_box rfl hvc rfl (fun b1 => ?_))
 refine JL.step (y_assign rfl) rfl rfl rfl ?_
 refine JL.nil (JE.then_normal (J.seq (J.region (JL.step (y_makeFunc rfl rfl) rfl rfl rfl (JL.step (y_assign rfl) rfl rfl rfl ?_)))))
 refine JL.nil (JE.then_normal (J.ret ?_))
 refine JE.ret1 (.inl rfl) rfl rfl (by (first | exact RV.tmp rfl | exact RV.cell1 hT rfl rfl rfl (by (exact Rd1.row (by (repeat (first | exact Pick.head | apply Pick.tail | apply Pick.app))) (by rfl))) | exact RV.cellN hT rfl rfl rfl (by (first | exact RdN.rowAll (by (repeat (first | exact Pick.head | apply Pick.tail | apply Pick.app))) | exact RdN.own (by (repeat (first | exact Pick.head | apply Pick.tail | apply Pick.app))))) (by (first | rfl | assumption | (simp; done) | omega)))) ?_
 exact ⟨b1, rfl, rfl⟩
theorem bmE_split {fs : List BurT} {r1 r2 : List (Int × Value)} {a : Int} {v : Value} (h : bmE fs = r1 ++ (a, v) :: r2) : ∃ q1 f q2, fs = q1 ++ f :: q2 ∧ r1 ++ r2 = bmE (q1 ++ q2) ∧ a = f.1 ∧ v = .agg (buE f).toArray := by
 unfold bmE at h
 obtain ⟨q1, q', h1, h2, h3⟩ := List.map_eq_append_iff.1 h
 obtain ⟨f, q2, h4, h5, h6⟩ := List.map_eq_cons_iff.1 h3
 simp only [Prod.mk.injEq] at h5
 exact ⟨q1, f, q2, by rw [h1, h4], by unfold bmE; rw [List.map_append, h2, h6], h5.1.symm, h5.2.symm⟩
theorem mkeysB_each (b mp : Nat) (fs : List BurT) (l : List HProp) : IterI E 69 b fs.length (fun vs => vs.Perm (fs.map (·.1))) (bMap b mp fs) l := by
 intro k St hy
 refine Fc.post ?_
 unfold bMap
 refine Fc.pks fun _ => ?_
 dsimp only
 refine Fc.of_body (c := ?codeC) Tryd.func69 ?hb Tryd.ntmps69 ?hl ?_
 case hb => exact rfl
 case hl => exact rfl
 refine J.seq (J.region ?_)
 refine JL.step (y_load1 hT rfl rfl rfl (by (exact Rd1.row (by (repeat (first | exact Pick.head | apply Pick.tail | apply Pick.app))) (by rfl)))) rfl rfl rfl ?_
 refine JL.loud rfl (l_rangeMap hT rfl rfl rfl (by (repeat (first | exact Pick.head | apply Pick.tail | apply Pick.app))) rfl (fun it => ?_))
 refine JL.nil (JE.then_normal (J.block ?_))
 refine J.loop (α := List Int × List BurT × Option (Int × Value)) (fun s => (s.1 ++ s.2.1.map (·.1)).Perm (fs.map (·.1))) (fun s => [(0, .func (.yield k) #[] #[]), (1, .pointer (some ⟨b, 0, none⟩)), (5, .pointer (some ⟨it, 0, none⟩))]) (fun s => St s.1 ++ (mapIt (Value.int .i64) (fun _ => True) mp it (bmE fs) (bmE s.2.1) s.2.2 :: row b 96 [.map (some mp)] :: l)) (fun s => s.2.1.length) ([], fs, none) (by simp) ⟨rfl, rfl, rfl, trivial⟩ (fun w h => by
  have h2 := h.sup (p := mapIt (Value.int .i64) (fun _ => True) mp it (bmE fs) (bmE fs) none :: row b 96 [.map (some mp)] :: (St [] ++ l)) (by (repeat (first | exact Sup.refl | apply Sup.cons (by (repeat (first | exact Pick.head | apply Pick.tail | apply Pick.app))) | apply Sup.app | apply Sup.skip | apply Sup.skips)))
  exact Sat.rot (p := [_, _]) (g := St []) h2) ?_
 rintro ⟨vs, rest, cur⟩ hp
 dsimp only at hp ⊢
 refine J.seq (J.region ?_)
 refine JL.loud rfl (l_nextMap rfl (by (repeat (first | exact Pick.head | apply Pick.tail | apply Pick.app))) rfl (fun h0 => ?_) (fun r1 a v r2 he ha => ?_))
 all_goals (refine JL.step (y_extract rfl rfl) rfl rfl rfl ?_)
 all_goals refine JL.nil (JE.then_normal ?_)
 all_goals
  refine J.seq ?_
  first | apply J.cond_dec rfl | apply J.cond rfl
  case' ht =>
   intro h
   try (first | (exfalso; omega) | (cases h; done) | (exfalso; simp at h; done) | subst h)
   all_goals
    refine J.skip ?_
  case' hf =>
   intro h
   try (first | (exfalso; omega) | (cases h; done) | (exfalso; simp at h; done) | subst h)
   all_goals
    refine J.exit (JE.then_exit (JE.then_exit (JE.block_exit ?_)))
    refine JE.ret0 (.inr rfl) rfl rfl  ?_
    refine ⟨bMap b mp fs :: (St vs ++ l), fun w h => ?_, vs, by rw [show rest = [] from List.eq_nil_of_length_eq_zero (by rw [← bmE_length, h0]; rfl)] at hp; simpa using hp, rfl⟩
    have s1 := Sat.rot (p := [_]) (g := St vs) h.it_end
    have s2 := Sat.rot (p := St vs) (g := [mapA (Value.int .i64) (fun _ => True) mp (bmE fs), row b 96 [.map (some mp)]]) s1
    exact Sat.topk (F := fun _ : Unit => [row b 96 [.map (some mp)], mapA (Value.int .i64) (fun _ => True) mp (bmE fs)]) () (s2.sup (by (repeat (first | exact Sup.refl | apply Sup.cons (by (repeat (first | exact Pick.head | apply Pick.tail | apply Pick.app))) | apply Sup.app | apply Sup.skip | apply Sup.skips))))
  all_goals refine JE.then_normal ?_
  all_goals
   refine J.block (J.seq ?_)
   obtain ⟨q1, f, q2, rfl, he2, rfl, rfl⟩ := bmE_split he
   refine J.region ?_
   refine JL.step (y_entry rfl (by (repeat (first | exact Pick.head | apply Pick.tail | apply Pick.app)))) rfl rfl rfl ?_
   refine JL.step (y_extract rfl rfl) rfl rfl rfl (JL.step (y_assign rfl) rfl rfl rfl ?_)
   refine JL.nil (JE.then_normal (J.seq (J.region ?_)))
   have hlen : vs.length < fs.length := by
    have := hp.length_eq
    simp at this
    omega
   refine JL.step (y_move rfl) rfl rfl rfl (JL.step (y_move rfl) rfl rfl rfl ?_)
   refine JL.yield rfl rfl rfl (Yc.imp (hy _ vs f.1 hlen) (fun w h => Sat.rot (p := [_]) (g := St vs) h)) ?_
   rintro _ _ ⟨rfl, rfl⟩
   all_goals (refine JL.step (y_not rfl) rfl rfl rfl ?_)
   all_goals refine JL.nil (JE.then_normal ?_)
   all_goals
    refine J.cond_f rfl (by (first | rfl | assumption | (simp; done) | (simp; omega))) ?_
    refine J.skip ?_
   all_goals refine JE.block_normal ?_
 all_goals
  exact JE.round (s := (vs, q1 ++ f :: q2, cur)) (vs ++ [f.1], q1 ++ q2, some (f.1, .agg (buE f).toArray)) (by
   dsimp only
   refine List.Perm.trans ?_ hp
   simp only [List.map_append, List.map_cons, List.append_assoc, List.cons_append, List.nil_append]
   exact List.Perm.append_left vs List.perm_middle.symm) ⟨rfl, rfl, rfl, trivial⟩ (fun w h => by rw [← he2]; exact h.sup (by (repeat (first | exact Sup.refl | apply Sup.cons (by (repeat (first | exact Pick.head | apply Pick.tail | apply Pick.app))) | apply Sup.app | apply Sup.skip | apply Sup.skips)))) (by dsimp only; simp)
end
section
attribute [local irreducible] J JL JE JM LS Y Fc RV Code.wp wpList Code.wpIn wpListIn
attribute [local irreducible] Yc Sort.ltInt
variable (E : World)
theorem bursts_spec (p : Option Addr) (n c : Nat) (ws : List WireT) (cl : Int) (l : List HProp) (hn : ws.length = n) (hn8 : n ≤ 1000) (hw : ∀ w ∈ ws, WiOk w) (hin : InL l p n c (ws.flatMap wiE)) :
 Fc prog E 28 [.slice p n c, .int .i64 cl].toArray l (fun v l' => ∃ a c', v = .slice a (refB cl ws).length c' ∧ l' = own 65 3 v (refB cl ws).length ((refB cl ws).flatMap buE) :: l) := by
 refine Fc.post ?_
 refine Fc.of_body (c := ?codeC) Tryd.func28 ?hb Tryd.ntmps28 ?hl ?_
 case hb => exact rfl
 case hl => exact rfl
 refine J.seq (J.region (JL.step (y_assign rfl) rfl rfl rfl ?_))
 refine JL.nil (JE.then_normal (J.scope (J.seq (J.region ?_))))
 refine JL.loud rfl (l_makeMap rfl (fun b1 => ?_))
 refine JL.step (y_assign rfl) rfl rfl rfl ?_
 refine JL.nil (JE.then_normal (J.seq (J.label (JE.then_normal (J.seq (J.seq (J.region (JL.step (y_move rfl) rfl rfl rfl (JL.step (y_len_slice hT rfl rfl rfl) rfl rfl rfl (JL.step (y_move rfl) rfl rfl rfl ?_))))))))))
 refine JL.nil (JE.then_normal (J.block ?_))
 refine J.pre (l' := mapA (Value.int .i64) (fun _ => True) b1 (bmE []) :: l) (fun w s => s.map_new (enc := Value.int .i64) (ok := fun _ => True)) ?_
 refine J.loop (α := Nat) (fun i => i ≤ n) (fun i => [(1, .int .i64 cl), (5, .map (some b1)), (15, .slice p n c), (16, .int .i64 n), (17, .int .i64 i)]) (fun i => mapA (Value.int .i64) (fun _ => True) b1 (bmE (burF cl (ws.take i))) :: l) (fun i => n - i) 0 (Nat.zero_le _) ⟨rfl, rfl, rfl, rfl, rfl, trivial⟩ (fun w h => h) ?_
 intro i hi
 try dsimp only
 refine J.seq (J.region (JL.step (y_lss rfl rfl) rfl rfl rfl ?_))
 refine JL.nil (JE.then_normal (J.seq ?_))
 first | apply J.cond_dec rfl | apply J.cond rfl
 case' ht =>
  intro h
  try (first | (exfalso; omega) | (cases h; done) | (exfalso; simp at h; done) | subst h)
  all_goals
   refine J.skip ?_
 case' hf =>
  intro h
  try (first | (exfalso; omega) | (cases h; done) | (exfalso; simp at h; done) | subst h)
  all_goals
   refine J.exit (JE.then_exit (JE.then_exit (JE.block_exit (JE.then_normal (J.seq (J.region (JL.step (y_assign rfl) rfl rfl rfl ?_)))))))
   refine JL.nil (JE.then_normal (J.seq (J.seq ?_)))
   obtain rfl : i = n := by omega
   rw [List.take_of_length_le (by omega)]
   obtain ⟨M, hM⟩ : ∃ M, burF cl ws = M := ⟨_, rfl⟩
   have hMf := burF_facts cl ws
   rw [hM] at hMf ⊢
   refine J.region (JL.step (y_move rfl) rfl rfl rfl ?_)
   refine JL.loud rfl (l_callF e52 rfl rfl (mkeysB_spec E _ _ rfl) ?_)
   rintro _ _ ⟨bK, rfl, rfl⟩
   refine JL.pre (l' := bMap bK b1 M :: l) (fun w s => Sat.topk (F := fun _ : Unit => [row bK 96 [.map (some b1)], mapA (Value.int .i64) (fun _ => True) b1 (bmE M)]) () (s.sup (by (repeat (first | exact Sup.refl | apply Sup.cons (by (repeat (first | exact Pick.head | apply Pick.tail | apply Pick.app))) | apply Sup.app | apply Sup.skip | apply Sup.skips))))) ?_
   refine JL.loud rfl (l_callF e51 rfl rfl (sortedI E e69 (mkeysB_each E bK b1 M _) (by omega) (fun vs h => by have := h.length_eq; rw [List.length_map] at this; omega)) ?_)
   rintro _ _ ⟨us, ys, a7, c7, hus, hys, hsort, rfl, rfl⟩
   refine JL.step (y_len_slice hT rfl rfl rfl) rfl rfl rfl (JL.step (y_move rfl) rfl rfl rfl ?_)
   refine JL.nil (JE.then_normal (J.block ?_))
   obtain ⟨hyb, hbl⟩ := bursts_same (c := cl) (ws := ws) (by rw [hM]; exact hys.trans hus) hsort
   have hrl := refB_length cl ws
   obtain ⟨B, hB⟩ : ∃ B, refB cl ws = B := ⟨_, rfl⟩
   rw [hB] at hyb hbl hrl ⊢
   rw [hM] at hbl
   subst hyb
   rw [List.length_map]
   refine J.pre (l' := own 65 3 (.slice none 0 0) 0 [] :: own 3 1 (.slice a7 B.length c7) B.length ((B.map (·.1)).map (Value.int .i64)) :: mapA (Value.int .i64) (fun _ => True) b1 (bmE M) :: l) (fun w s => ?_) ?_
   · obtain ⟨_, s2⟩ := Sat.ofpk (s.pick (Pick.tail Pick.head))
     exact (Sat.own_nil (e := 65) (size := 3) s2).sup (by (repeat (first | exact Sup.refl | apply Sup.cons (by (repeat (first | exact Pick.head | apply Pick.tail | apply Pick.app))) | apply Sup.app | apply Sup.skip | apply Sup.skips)))
   refine J.fact (fun w s => Sat.own_at (s.pick (Pick.tail Pick.head))) fun oy => ?_
   refine J.loop (α := Nat × Option Addr × Nat) (fun s => s.1 ≤ B.length) (fun s => [(5, .map (some b1)), (11, .slice s.2.1 s.1 s.2.2), (75, .slice a7 B.length c7), (76, .int .i64 B.length), (77, .int .i64 s.1)]) (fun s => own 65 3 (.slice s.2.1 s.1 s.2.2) s.1 ((B.take s.1).flatMap buE) :: own 3 1 (.slice a7 B.length c7) B.length ((B.map (·.1)).map (Value.int .i64)) :: mapA (Value.int .i64) (fun _ => True) b1 (bmE M) :: l) (fun s => B.length - s.1) (0, none, 0) (Nat.zero_le _) ⟨rfl, rfl, rfl, rfl, rfl, trivial⟩ (fun w h => h) ?_
   rintro ⟨j, a2, c2⟩ hj
   dsimp only at hj ⊢
   refine J.seq (J.region (JL.step (y_lss rfl rfl) rfl rfl rfl ?_))
   refine JL.nil (JE.then_normal (J.seq ?_))
   first | apply J.cond_dec rfl | apply J.cond rfl
   case' ht =>
    intro h
    try (first | (exfalso; omega) | (cases h; done) | (exfalso; simp at h; done) | subst h)
    all_goals
     refine J.skip ?_
   case' hf =>
    intro h
    try (first | (exfalso; omega) | (cases h; done) | (exfalso; simp at h; done) | subst h)
    all_goals
     refine J.exit (JE.then_exit (JE.then_exit (JE.block_exit (JE.then_normal (J.seq (J.region (JL.step (y_move rfl) rfl rfl rfl (JL.step (y_assign rfl) rfl rfl rfl ?_))))))))
     refine JL.nil (JE.then_normal (J.ret (JE.scope_ret ?_)))
     refine JE.ret1 (.inl rfl) rfl rfl (by (first | exact RV.tmp rfl | exact RV.cell1 hT rfl rfl rfl (by (exact Rd1.row (by (repeat (first | exact Pick.head | apply Pick.tail | apply Pick.app))) (by rfl))) | exact RV.cellN hT rfl rfl rfl (by (first | exact RdN.rowAll (by (repeat (first | exact Pick.head | apply Pick.tail | apply Pick.app))) | exact RdN.own (by (repeat (first | exact Pick.head | apply Pick.tail | apply Pick.app))))) (by (first | rfl | assumption | (simp; done) | omega)))) ?_
     obtain rfl : j = B.length := by omega
     rw [List.take_length]
     exact ⟨_, fun w h => h.sup (by (repeat (first | exact Sup.refl | apply Sup.cons (by (repeat (first | exact Pick.head | apply Pick.tail | apply Pick.app))) | apply Sup.app | apply Sup.skip | apply Sup.skips))), a2, c2, rfl, rfl⟩
   all_goals refine JE.then_normal ?_
   all_goals
    refine J.seq (J.block (J.seq ?_))
    have hlt : j < B.length := by omega
    obtain ⟨y, hh⟩ : ∃ y, B[j]? = some y := ⟨B[j], List.getElem?_eq_getElem _⟩
    have hly := hbl y (List.mem_of_getElem? hh)
    have hlk := blook_eq M y.1
    rw [hly] at hlk
    have hst : (B.take (j + 1)).flatMap buE = (B.take j).flatMap buE ++ buE y := by rw [List.take_add_one, hh, Option.toList_some, List.flatMap_append]; simp
    obtain ⟨g7, o7, rfl, hr7⟩ := (oy.inl (l := own 65 3 (.slice a2 j c2) j ((B.take j).flatMap buE) :: own 3 1 (.slice a7 B.length c7) B.length ((B.map (·.1)).map (Value.int .i64)) :: mapA (Value.int .i64) (fun _ => True) b1 (bmE M) :: l) (Pick.tail Pick.head)).addr (by omega)
    refine J.region ?_
    refine JL.step (y_indexAddr_slice hT rfl rfl rfl rfl rfl (by (first | omega | exact Nat.le_of_ble_eq_true rfl | decide | (simp; omega))) (by (first | omega | exact Nat.le_of_ble_eq_true rfl | decide | (simp; omega)))) rfl rfl rfl ?_
    refine JL.step (y_load1 hT rfl rfl rfl (Rd1.elem (hr7 []) (by rw [Int.toNat_natCast, List.getElem?_map, List.getElem?_map, hh]; rfl))) rfl rfl rfl ?_
    refine JL.step (y_assign rfl) rfl rfl rfl ?_
    refine JL.nil (JE.then_normal (J.region (JL.step (y_move rfl) rfl rfl rfl (JL.step (y_move rfl) rfl rfl rfl (JL.step (y_move rfl) rfl rfl rfl ?_)))))
    refine JL.step (v := .agg (buE y).toArray) (Y.val (y_lookup (a := y.1) hT rfl rfl rfl rfl (keyInt hT rfl rfl) rfl rfl rfl trivial (by (repeat (first | exact Pick.head | apply Pick.tail | apply Pick.app)))) (by rw [hlk]; rfl)) rfl rfl rfl ?_
    refine JL.loud rfl (l_buildSliceP hT rfl rfl rfl rfl rfl rfl rfl (by (first | exact fill_one rfl (by first | assumption | rfl | (simp; done)) | rfl | simp)) rfl (fun b4 => ?_))
    refine JL.loud rfl (l_append (news := buE y) hT rfl rfl rfl rfl rfl rfl rfl rfl (by (repeat (first | exact Pick.head | apply Pick.tail | apply Pick.app))) (by (first | exact RdN.rowAll (by (repeat (first | exact Pick.head | apply Pick.tail | apply Pick.app))) | exact RdN.own (by (repeat (first | exact Pick.head | apply Pick.tail | apply Pick.app))))) (by (first | rfl | assumption | (simp; done) | omega)) (buE_one y) (by rw [show i65.bytes = 24 from rfl]; omega) (by omega) rfl (fun ab cb hcb => ?_))
    refine JL.step (y_assign rfl) rfl rfl rfl ?_
    refine JL.nil (JE.block_normal (JE.then_normal (J.region ?_)))
    refine JL.step (y_add rfl rfl (by (first | exact wrap_i64 (by omega) (by omega) | rfl))) rfl rfl rfl ?_
    refine JL.step (y_move rfl) rfl rfl rfl ?_
    refine JL.nil ?_
   all_goals
    exact JE.round (s := (j, a2, c2)) (j + 1, ab, cb) (by dsimp only; omega) ⟨rfl, rfl, rfl, rfl, rfl, trivial⟩ (fun w h => by dsimp only; rw [hst]; exact h.sup (by (repeat (first | exact Sup.refl | apply Sup.cons (by (repeat (first | exact Pick.head | apply Pick.tail | apply Pick.app))) | apply Sup.app | apply Sup.skip | apply Sup.skips)))) (by dsimp only; omega)
 all_goals refine JE.then_normal ?_
 all_goals
  refine J.seq (J.block (J.seq ?_))
  have hlt : i < n := by omega
  obtain ⟨w, hh⟩ : ∃ w, ws[i]? = some w := ⟨ws[i]'(by omega), List.getElem?_eq_getElem _⟩
  have hst := burF_take (c := cl) hh
  have hwk := hw w (List.mem_of_getElem? hh)
  obtain ⟨M, hM⟩ : ∃ M, burF cl (ws.take i) = M := ⟨_, rfl⟩
  rw [hM] at hst ⊢
  obtain ⟨g, o, rfl, hr⟩ := hin.addr (by omega)
  refine J.region ?_
  refine JL.step (y_indexAddr_slice hT rfl rfl rfl rfl rfl (by (first | omega | exact Nat.le_of_ble_eq_true rfl | decide | (simp; omega))) (by (first | omega | exact Nat.le_of_ble_eq_true rfl | decide | (simp; omega)))) rfl rfl rfl ?_
  refine JL.step (y_loadN hT rfl rfl rfl (RdN.elem ((hr []).cons _) (fun x _ => wiE_length x) hh) rfl) rfl rfl rfl ?_
  refine JL.loud rfl (l_alloc hT rfl rfl (by (first | rfl | simp)) rfl (fun b5 => ?_))
  refine JL.loud rfl (l_storeAll hT rfl rfl rfl (by (first | rfl | assumption | (simp; done) | omega)) (by (first | assumption | exact ones_of rfl | exact encW_one _ | exact encB_one _ | (intro u hu; simp at hu; rcases hu with rfl | rfl <;> rfl) | (intro u hu; simp at hu; subst hu; rfl) | simp)) (by (repeat (first | exact Pick.head | apply Pick.tail | apply Pick.app))) (by (first | rfl | assumption | (simp; done) | omega)) ?_)
  refine JL.nil (JE.then_normal (J.seq (J.seq (J.region (JL.step (y_fieldAddr hT rfl rfl rfl rfl rfl rfl) rfl rfl rfl ?_)))))
  refine JL.step (y_load1 hT rfl rfl rfl (by (exact Rd1.row (by (repeat (first | exact Pick.head | apply Pick.tail | apply Pick.app))) (by rfl)))) rfl rfl rfl ?_
  refine JL.step (y_move rfl) rfl rfl rfl (JL.step (y_neq rfl rfl) rfl rfl rfl (JL.step (y_move rfl) rfl rfl rfl ?_))
  all_goals (first | (refine JL.gsplit_dec rfl rfl rfl (fun h => ?_) (fun h => ?_) <;> try (first | (exfalso; omega) | exact absurd rfl h)) | (refine JL.gsplit rfl rfl rfl (fun h => ?_) (fun h => ?_) <;> try (first | cases h | (exfalso; simp at h; done))) | skip)
  all_goals (first | refine JL.gskip rfl rfl rfl rfl rfl rfl ?_ | refine JL.gskipU rfl rfl rfl rfl rfl ?_ | refine JL.gstep rfl rfl rfl (y_fieldAddr hT rfl rfl rfl rfl rfl rfl) rfl rfl ?_)
  all_goals (first | refine JL.gskip rfl rfl rfl rfl rfl rfl ?_ | refine JL.gskipU rfl rfl rfl rfl rfl ?_ | refine JL.gstep rfl rfl rfl (y_load1 hT rfl rfl rfl (by (exact Rd1.row (by (repeat (first | exact Pick.head | apply Pick.tail | apply Pick.app))) (by rfl)))) rfl rfl ?_)
  all_goals (first | refine JL.gskip rfl rfl rfl rfl rfl rfl ?_ | refine JL.gskipU rfl rfl rfl rfl rfl ?_ | refine JL.gstep rfl rfl rfl (y_neq rfl rfl) rfl rfl ?_)
  all_goals (refine JL.step (y_pick rfl rfl rfl) rfl rfl rfl ?_)
  all_goals refine JL.nil (JE.then_normal ?_)
  all_goals
   first | apply J.cond_dec rfl | apply J.cond rfl
   case' ht =>
    intro h
    try (first | (exfalso; omega) | (cases h; done) | (exfalso; simp at h; done) | subst h)
    all_goals
     rw [show ofC cl w = false by unfold ofC; rw [decide_eq_false (by omega)], if_neg (by simp)] at hst
     refine J.exit (JE.then_exit (JE.block_exit (JE.then_normal (J.region ?_))))
     refine JL.step (y_add rfl rfl (by (first | exact wrap_i64 (by omega) (by omega) | rfl))) rfl rfl rfl ?_
     refine JL.step (y_move rfl) rfl rfl rfl ?_
     refine JL.nil ?_
     first
     | have zz : burF cl (ws.take (i + 1)) = M := hst
       exact JE.round (s := i) (i + 1) (by omega) ⟨rfl, rfl, rfl, rfl, rfl, trivial⟩ (fun w2 h => by rw [zz]; exact h.sup (by (repeat (first | exact Sup.refl | apply Sup.cons (by (repeat (first | exact Pick.head | apply Pick.tail | apply Pick.app))) | apply Sup.app | apply Sup.skip | apply Sup.skips)))) (by omega)
     | have zz : burF cl (ws.take (i + 1)) = bput M w := hst
       exact JE.round (s := i) (i + 1) (by omega) ⟨rfl, rfl, rfl, rfl, rfl, trivial⟩ (fun w2 h => by
        rw [zz, ← hput]
        first | rw [if_pos (by assumption)] | rw [if_neg (by assumption)] | skip
        exact h.sup (by (repeat (first | exact Sup.refl | apply Sup.cons (by (repeat (first | exact Pick.head | apply Pick.tail | apply Pick.app))) | apply Sup.app | apply Sup.skip | apply Sup.skips)))) (by omega)
   case' hf =>
    intro h
    try (first | (exfalso; omega) | (cases h; done) | (exfalso; simp at h; done) | subst h)
    all_goals
     rw [show ofC cl w = true by unfold ofC; rw [decide_eq_true (by omega)], if_pos rfl] at hst
     have hput := bput_eq M w
     refine J.skip ?_
  all_goals refine JE.then_normal ?_
  all_goals
   refine J.seq (J.region (JL.step (y_assign rfl) rfl rfl rfl ?_))
   refine JL.nil (JE.then_normal ?_)
   refine J.seqK (α := Int) (fun z => z = eachZ w) (fun z => [(1, .int .i64 cl), (5, .map (some b1)), (7, .pointer (some ⟨b5, 0, none⟩)), (8, .int .i64 z), (15, .slice (some ⟨g, o, none⟩) n c), (16, .int .i64 n), (17, .int .i64 i)]) (fun _ => row b5 38 (wiE w) :: mapA (Value.int .i64) (fun _ => True) b1 (bmE M) :: l) ?hj9 (fun hk9 => ?hf9)
   case hf9 =>
    refine J.seq (J.region (JL.step (y_fieldAddr hT rfl rfl rfl rfl rfl rfl) rfl rfl rfl ?_))
    refine JL.step (y_load1 hT rfl rfl rfl (by (exact Rd1.row (by (repeat (first | exact Pick.head | apply Pick.tail | apply Pick.app))) (by rfl)))) rfl rfl rfl ?_
    refine JL.step (y_gtr rfl rfl) rfl rfl rfl (JL.step (y_move rfl) rfl rfl rfl ?_)
    all_goals (first | (refine JL.gsplit_dec rfl rfl rfl (fun h => ?_) (fun h => ?_) <;> try (first | (exfalso; omega) | exact absurd rfl h)) | (refine JL.gsplit rfl rfl rfl (fun h => ?_) (fun h => ?_) <;> try (first | cases h | (exfalso; simp at h; done))) | skip)
    all_goals (first | refine JL.gskip rfl rfl rfl rfl rfl rfl ?_ | refine JL.gskipU rfl rfl rfl rfl rfl ?_ | refine JL.gstep rfl rfl rfl (y_fieldAddr hT rfl rfl rfl rfl rfl rfl) rfl rfl ?_)
    all_goals (first | refine JL.gskip rfl rfl rfl rfl rfl rfl ?_ | refine JL.gskipU rfl rfl rfl rfl rfl ?_ | refine JL.gstep rfl rfl rfl (y_load1 hT rfl rfl rfl (by (exact Rd1.row (by (repeat (first | exact Pick.head | apply Pick.tail | apply Pick.app))) (by rfl)))) rfl rfl ?_)
    all_goals (first | refine JL.gskip rfl rfl rfl rfl rfl rfl ?_ | refine JL.gskipU rfl rfl rfl rfl rfl ?_ | refine JL.gstep rfl rfl rfl (y_fieldAddr hT rfl rfl rfl rfl rfl rfl) rfl rfl ?_)
    all_goals (first | refine JL.gskip rfl rfl rfl rfl rfl rfl ?_ | refine JL.gskipU rfl rfl rfl rfl rfl ?_ | refine JL.gstep rfl rfl rfl (y_load1 hT rfl rfl rfl (by (exact Rd1.row (by (repeat (first | exact Pick.head | apply Pick.tail | apply Pick.app))) (by rfl)))) rfl rfl ?_)
    all_goals (first | refine JL.gskip rfl rfl rfl rfl rfl rfl ?_ | refine JL.gskipU rfl rfl rfl rfl rfl ?_ | refine JL.gstep rfl rfl rfl (y_rem rfl rfl (by (first | omega | exact Nat.le_of_ble_eq_true rfl | decide | (simp; omega))) (by rfl)) rfl rfl ?_)
    all_goals (first | refine JL.gskip rfl rfl rfl rfl rfl rfl ?_ | refine JL.gskipU rfl rfl rfl rfl rfl ?_ | refine JL.gstep rfl rfl rfl (y_eql rfl rfl) rfl rfl ?_)
    all_goals (refine JL.step (y_pick rfl rfl rfl) rfl rfl rfl ?_)
    all_goals refine JL.nil (JE.then_normal ?_)
    all_goals
     first | apply J.cond_dec rfl | apply J.cond rfl
     case' ht =>
      intro h
      try (first | (exfalso; omega) | (cases h; done) | (exfalso; simp at h; done) | subst h)
      all_goals
       refine J.region (JL.step (y_fieldAddr hT rfl rfl rfl rfl rfl rfl) rfl rfl rfl ?_)
       refine JL.step (y_load1 hT rfl rfl rfl (by (exact Rd1.row (by (repeat (first | exact Pick.head | apply Pick.tail | apply Pick.app))) (by rfl)))) rfl rfl rfl ?_
       refine JL.step (y_fieldAddr hT rfl rfl rfl rfl rfl rfl) rfl rfl rfl ?_
       refine JL.step (y_load1 hT rfl rfl rfl (by (exact Rd1.row (by (repeat (first | exact Pick.head | apply Pick.tail | apply Pick.app))) (by rfl)))) rfl rfl rfl ?_
       refine JL.step (y_quo (m := w.2.2.2.2.tdiv w.2.2.2.1) rfl rfl (by omega) (wrap_i64 (tdiv_range hwk.2.2.2.2 (by omega)).1 (tdiv_range hwk.2.2.2.2 (by omega)).2)) rfl rfl rfl ?_
       refine JL.step (y_assign rfl) rfl rfl rfl ?_
       refine JL.nil ?_
     case' hf =>
      intro h
      try (first | (exfalso; omega) | (cases h; done) | (exfalso; simp at h; done) | subst h)
      all_goals
       refine J.skip ?_
    all_goals refine JE.then_normal ?_
    all_goals
     first
     | exact J.closeK hk9 (w.2.2.2.2.tdiv w.2.2.2.1) (by unfold eachZ; rw [if_neg (by rintro (q | q); (omega); (exact q (by assumption)))]) ⟨rfl, rfl, rfl, rfl, rfl, rfl, rfl, trivial⟩ (fun w h => h)
     | exact J.closeK hk9 (-1) (by unfold eachZ; rw [if_pos (by first | exact .inr (by assumption) | exact .inl (by omega))]) ⟨rfl, rfl, rfl, rfl, rfl, rfl, rfl, trivial⟩ (fun w h => h)
   rintro z hz
   try dsimp only
   refine J.seq ?_
   rcases hbl : blook M w.1 with _ | b
   all_goals rw [hbl] at hput
   all_goals dsimp only at hput
   all_goals rw [← hz] at hput
   all_goals have hlk := blook_eq M w.1
   all_goals rw [hbl] at hlk
   all_goals
    refine J.region (JL.step (y_move rfl) rfl rfl rfl (JL.step (y_fieldAddr hT rfl rfl rfl rfl rfl rfl) rfl rfl rfl ?_))
    refine JL.step (y_load1 hT rfl rfl rfl (by (exact Rd1.row (by (repeat (first | exact Pick.head | apply Pick.tail | apply Pick.app))) (by rfl)))) rfl rfl rfl ?_
    first
    | refine JL.step (v := .tuple #[.agg (buE (0, 0, 0)).toArray, .bool false]) (Y.val (y_lookup (a := w.1) hT rfl rfl rfl rfl (keyInt hT rfl rfl) rfl rfl rfl trivial (by (repeat (first | exact Pick.head | apply Pick.tail | apply Pick.app)))) (by rw [hlk]; rfl)) rfl rfl rfl ?_
    | refine JL.step (v := .tuple #[.agg (buE b).toArray, .bool true]) (Y.val (y_lookup (a := w.1) hT rfl rfl rfl rfl (keyInt hT rfl rfl) rfl rfl rfl trivial (by (repeat (first | exact Pick.head | apply Pick.tail | apply Pick.app)))) (by rw [hlk]; rfl)) rfl rfl rfl ?_
    refine JL.step (y_move rfl) rfl rfl rfl (JL.step (y_extract rfl rfl) rfl rfl rfl (JL.step (y_extract rfl rfl) rfl rfl rfl ?_))
    refine JL.loud rfl (l_alloc hT rfl rfl (by (first | rfl | simp)) rfl (fun b7 => ?_))
    refine JL.loud rfl (l_storeAll (vs := buE _) hT rfl rfl rfl rfl (buE_one _) (by (repeat (first | exact Pick.head | apply Pick.tail | apply Pick.app))) (by (first | rfl | assumption | (simp; done) | omega)) ?_)
    refine JL.step (y_assign rfl) rfl rfl rfl ?_
    refine JL.nil ?_
   all_goals refine JE.then_normal ?_
   all_goals
    refine J.seq (J.seq (J.region (JL.step (y_move rfl) rfl rfl rfl (JL.step (y_move rfl) rfl rfl rfl ?_))))
    all_goals (first | (refine JL.gsplit_dec rfl rfl rfl (fun h => ?_) (fun h => ?_) <;> try (first | (exfalso; omega) | exact absurd rfl h)) | (refine JL.gsplit rfl rfl rfl (fun h => ?_) (fun h => ?_) <;> try (first | cases h | (exfalso; simp at h; done))) | skip)
    all_goals (first | refine JL.gskip rfl rfl rfl rfl rfl rfl ?_ | refine JL.gskipU rfl rfl rfl rfl rfl ?_ | refine JL.gstep rfl rfl rfl (y_fieldAddr hT rfl rfl rfl rfl rfl rfl) rfl rfl ?_)
    all_goals (first | refine JL.gskip rfl rfl rfl rfl rfl rfl ?_ | refine JL.gskipU rfl rfl rfl rfl rfl ?_ | refine JL.gstep rfl rfl rfl (y_load1 hT rfl rfl rfl (by (exact Rd1.row (by (repeat (first | exact Pick.head | apply Pick.tail | apply Pick.app))) (by rfl)))) rfl rfl ?_)
    all_goals (first | refine JL.gskip rfl rfl rfl rfl rfl rfl ?_ | refine JL.gskipU rfl rfl rfl rfl rfl ?_ | refine JL.gstep rfl rfl rfl (y_move rfl) rfl rfl ?_)
    all_goals (first | refine JL.gskip rfl rfl rfl rfl rfl rfl ?_ | refine JL.gskipU rfl rfl rfl rfl rfl ?_ | refine JL.gstep rfl rfl rfl (y_neq rfl rfl) rfl rfl ?_)
    all_goals (refine JL.step (y_pick rfl rfl rfl) rfl rfl rfl ?_)
    all_goals refine JL.nil (JE.then_normal ?_)
    all_goals
     first | apply J.cond_dec rfl | apply J.cond rfl
     case' ht =>
      intro h
      try (first | (exfalso; omega) | (cases h; done) | (exfalso; simp at h; done) | subst h)
      all_goals
       refine J.region (JL.step (y_assign rfl) rfl rfl rfl ?_)
       refine JL.nil ?_
     case' hf =>
      intro h
      try (first | (exfalso; omega) | (cases h; done) | (exfalso; simp at h; done) | subst h)
      all_goals
       refine J.skip ?_
    all_goals refine JE.then_normal ?_
    all_goals
     refine J.region (JL.step (y_move rfl) rfl rfl rfl (JL.step (y_fieldAddr hT rfl rfl rfl rfl rfl rfl) rfl rfl rfl ?_))
     refine JL.step (y_load1 hT rfl rfl rfl (by (exact Rd1.row (by (repeat (first | exact Pick.head | apply Pick.tail | apply Pick.app))) (by rfl)))) rfl rfl rfl ?_
     refine JL.step (y_fieldAddr hT rfl rfl rfl rfl rfl rfl) rfl rfl rfl ?_
     refine JL.step (y_load1 hT rfl rfl rfl (by (exact Rd1.row (by (repeat (first | exact Pick.head | apply Pick.tail | apply Pick.app))) (by rfl)))) rfl rfl rfl ?_
     refine JL.step (y_fieldAddr hT rfl rfl rfl rfl rfl rfl) rfl rfl rfl ?_
     refine JL.step (y_load1 hT rfl rfl rfl (by (exact Rd1.row (by (repeat (first | exact Pick.head | apply Pick.tail | apply Pick.app))) (by rfl)))) rfl rfl rfl ?_
     refine JL.step (y_fieldAddr hT rfl rfl rfl rfl rfl rfl) rfl rfl rfl ?_
     refine JL.step (y_load1 hT rfl rfl rfl (by (exact Rd1.row (by (repeat (first | exact Pick.head | apply Pick.tail | apply Pick.app))) (by rfl)))) rfl rfl rfl ?_
     refine JL.step (y_add (m := wr _) rfl rfl rfl) rfl rfl rfl ?_
     refine JL.step (y_move rfl) rfl rfl rfl ?_
     refine JL.step (y_build (cs := [_, _, _]) hT rfl rfl rfl rfl rfl rfl ⟨⟨rfl, Nat.le_of_ble_eq_true rfl⟩, ⟨rfl, Nat.le_of_ble_eq_true rfl⟩, ⟨rfl, Nat.le_of_ble_eq_true rfl⟩, trivial⟩ rfl) rfl rfl rfl ?_
     refine JL.loud rfl (l_mapUpdate (a := w.1) hT rfl rfl (keyInt hT rfl rfl) rfl rfl rfl rfl trivial (by (repeat (first | exact Pick.head | apply Pick.tail | apply Pick.app))) ?_)
     refine JL.nil ?_
  all_goals refine JE.block_normal (JE.then_normal ?_)
  all_goals
   refine J.region ?_
   refine JL.step (y_add rfl rfl (by (first | exact wrap_i64 (by omega) (by omega) | rfl))) rfl rfl rfl ?_
   refine JL.step (y_move rfl) rfl rfl rfl ?_
   refine JL.nil ?_
 all_goals
  first
  | have zz : burF cl (ws.take (i + 1)) = M := hst
    exact JE.round (s := i) (i + 1) (by omega) ⟨rfl, rfl, rfl, rfl, rfl, trivial⟩ (fun w2 h => by rw [zz]; exact h.sup (by (repeat (first | exact Sup.refl | apply Sup.cons (by (repeat (first | exact Pick.head | apply Pick.tail | apply Pick.app))) | apply Sup.app | apply Sup.skip | apply Sup.skips)))) (by omega)
  | have zz : burF cl (ws.take (i + 1)) = bput M w := hst
    exact JE.round (s := i) (i + 1) (by omega) ⟨rfl, rfl, rfl, rfl, rfl, trivial⟩ (fun w2 h => by
     rw [zz, ← hput]
     first | rw [if_pos (by assumption)] | rw [if_neg (by assumption)] | skip
     exact h.sup (by (repeat (first | exact Sup.refl | apply Sup.cons (by (repeat (first | exact Pick.head | apply Pick.tail | apply Pick.app))) | apply Sup.app | apply Sup.skip | apply Sup.skips)))) (by omega)
end
end
section
open Go Go.SL
section
theorem bus_len (fs : List BurT) : (fs.flatMap buE).length = fs.length * 3 := seg_len fun x _ => buE_length x
theorem bus_one (fs : List BurT) : ∀ u ∈ fs.flatMap buE, u.oneCell' = true := by
 intro u hu
 obtain ⟨w, _, h⟩ := List.mem_flatMap.1 hu
 exact buE_one w u h
theorem bu_set1 (z : Int) : ∀ {fs : List BurT} {k : Nat} {f : BurT}, fs[k]? = some f → (fs.flatMap buE).set (k * 3 + 1) (.int .i64 z) = (fs.set k (f.1, z, f.2.2)).flatMap buE
 | [], k, f, h => by simp at h
 | g :: r, 0, f, h => by
   obtain rfl : g = f := by simpa using h
   rfl
 | g :: r, k + 1, f, h => by
   have ih := bu_set1 z (fs := r) (k := k) (f := f) (by simpa using h)
   rw [List.set_cons_succ, List.flatMap_cons, List.flatMap_cons, ← ih, List.set_append_right _ _ (by rw [buE_length]; omega), buE_length]
   congr 2
   omega
theorem bu_set2 (z : Int) : ∀ {fs : List BurT} {k : Nat} {f : BurT}, fs[k]? = some f → (fs.flatMap buE).set (k * 3 + 2) (.int .i64 z) = (fs.set k (f.1, f.2.1, z)).flatMap buE
 | [], k, f, h => by simp at h
 | g :: r, 0, f, h => by
   obtain rfl : g = f := by simpa using h
   rfl
 | g :: r, k + 1, f, h => by
   have ih := bu_set2 z (fs := r) (k := k) (f := f) (by simpa using h)
   rw [List.set_cons_succ, List.flatMap_cons, List.flatMap_cons, ← ih, List.set_append_right _ _ (by rw [buE_length]; omega), buE_length]
   congr 2
   omega
end
section
attribute [local irreducible] J JL JE JM LS Y Fc RV Code.wp wpList Code.wpIn wpListIn
attribute [local irreducible] Yc
variable (E : World)
theorem reach_spec (w : WireT) (hw : WiOk w) (l : List HProp) : Fc prog E 53 [.agg (wiE w).toArray].toArray l (fun v l' => v = .int .i64 (eachZ w) ∧ l' = l) := by
 refine Fc.eqs ?_
 refine Fc.of_body (c := ?codeC) Tryd.func53 ?hb Tryd.ntmps53 ?hl ?_
 case hb => exact rfl
 case hl => exact rfl
 refine J.seq (J.region ?_)
 refine JL.loud rfl (l_box (cs := wiE w) rfl rfl rfl (fun b1 => ?_))
 refine JL.step (y_assign rfl) rfl rfl rfl ?_
 refine JL.nil (JE.then_normal (J.seq (J.seq (J.region (JL.step (y_fieldAddr hT rfl rfl rfl rfl rfl rfl) rfl rfl rfl ?_)))))
 refine JL.step (y_load1 hT rfl rfl rfl (by (exact Rd1.row (by (repeat (first | exact Pick.head | apply Pick.tail | apply Pick.app))) (by rfl)))) rfl rfl rfl ?_
 refine JL.step (y_lss rfl rfl) rfl rfl rfl (JL.step (y_move rfl) rfl rfl rfl ?_)
 all_goals (first | (refine JL.gsplit_dec rfl rfl rfl (fun h => ?_) (fun h => ?_) <;> try (first | (exfalso; omega) | exact absurd rfl h)) | (refine JL.gsplit rfl rfl rfl (fun h => ?_) (fun h => ?_) <;> try (first | cases h | (exfalso; simp at h; done))) | skip)
 all_goals (first | refine JL.gskip rfl rfl rfl rfl rfl rfl ?_ | refine JL.gskipU rfl rfl rfl rfl rfl ?_ | refine JL.gstep rfl rfl rfl (y_fieldAddr hT rfl rfl rfl rfl rfl rfl) rfl rfl ?_)
 all_goals (first | refine JL.gskip rfl rfl rfl rfl rfl rfl ?_ | refine JL.gskipU rfl rfl rfl rfl rfl ?_ | refine JL.gstep rfl rfl rfl (y_load1 hT rfl rfl rfl (by (exact Rd1.row (by (repeat (first | exact Pick.head | apply Pick.tail | apply Pick.app))) (by rfl)))) rfl rfl ?_)
 all_goals (first | refine JL.gskip rfl rfl rfl rfl rfl rfl ?_ | refine JL.gskipU rfl rfl rfl rfl rfl ?_ | refine JL.gstep rfl rfl rfl (y_fieldAddr hT rfl rfl rfl rfl rfl rfl) rfl rfl ?_)
 all_goals (first | refine JL.gskip rfl rfl rfl rfl rfl rfl ?_ | refine JL.gskipU rfl rfl rfl rfl rfl ?_ | refine JL.gstep rfl rfl rfl (y_load1 hT rfl rfl rfl (by (exact Rd1.row (by (repeat (first | exact Pick.head | apply Pick.tail | apply Pick.app))) (by rfl)))) rfl rfl ?_)
 all_goals (first | refine JL.gskip rfl rfl rfl rfl rfl rfl ?_ | refine JL.gskipU rfl rfl rfl rfl rfl ?_ | refine JL.gstep rfl rfl rfl (y_rem rfl rfl (by (first | omega | exact Nat.le_of_ble_eq_true rfl | decide | (simp; omega))) (by rfl)) rfl rfl ?_)
 all_goals (first | refine JL.gskip rfl rfl rfl rfl rfl rfl ?_ | refine JL.gskipU rfl rfl rfl rfl rfl ?_ | refine JL.gstep rfl rfl rfl (y_neq rfl rfl) rfl rfl ?_)
 all_goals (refine JL.step (y_pick rfl rfl rfl) rfl rfl rfl ?_)
 all_goals refine JL.nil (JE.then_normal ?_)
 all_goals
  first | apply J.cond_dec rfl | apply J.cond rfl
  case' ht =>
   intro h
   try (first | (exfalso; omega) | (cases h; done) | (exfalso; simp at h; done) | subst h)
   all_goals
    refine J.seq (J.region (JL.step (y_assign rfl) rfl rfl rfl ?_))
    refine JL.nil (JE.then_normal (J.ret (JE.then_ret ?_)))
    refine JE.ret1 (.inl rfl) rfl rfl (by (first | exact RV.tmp rfl | exact RV.cell1 hT rfl rfl rfl (by (exact Rd1.row (by (repeat (first | exact Pick.head | apply Pick.tail | apply Pick.app))) (by rfl))) | exact RV.cellN hT rfl rfl rfl (by (first | exact RdN.rowAll (by (repeat (first | exact Pick.head | apply Pick.tail | apply Pick.app))) | exact RdN.own (by (repeat (first | exact Pick.head | apply Pick.tail | apply Pick.app))))) (by (first | rfl | assumption | (simp; done) | omega)))) ?_
    refine ⟨?_, fun w h => h.sup (by (repeat (first | exact Sup.refl | apply Sup.cons (by (repeat (first | exact Pick.head | apply Pick.tail | apply Pick.app))) | apply Sup.app | apply Sup.skip | apply Sup.skips)))⟩
    congr 1
    unfold eachZ
    first
    | (rw [if_pos (by first | exact .inl (by omega) | exact .inr (by assumption))]; done)
    | (rw [if_neg (by rintro (q | q); (omega); (first | exact q (by assumption) | exact absurd q (by assumption)))]; done)
  case' hf =>
   intro h
   try (first | (exfalso; omega) | (cases h; done) | (exfalso; simp at h; done) | subst h)
   all_goals
    refine J.skip ?_
 all_goals refine JE.then_normal ?_
 all_goals
  refine J.seq (J.region (JL.step (y_fieldAddr hT rfl rfl rfl rfl rfl rfl) rfl rfl rfl ?_))
  refine JL.step (y_load1 hT rfl rfl rfl (by (exact Rd1.row (by (repeat (first | exact Pick.head | apply Pick.tail | apply Pick.app))) (by rfl)))) rfl rfl rfl ?_
  refine JL.step (y_fieldAddr hT rfl rfl rfl rfl rfl rfl) rfl rfl rfl ?_
  refine JL.step (y_load1 hT rfl rfl rfl (by (exact Rd1.row (by (repeat (first | exact Pick.head | apply Pick.tail | apply Pick.app))) (by rfl)))) rfl rfl rfl ?_
  refine JL.step (y_quo (m := w.2.2.2.2.tdiv w.2.2.2.1) rfl rfl (by omega) (wrap_i64 (tdiv_range hw.2.2.2.2 (by omega)).1 (tdiv_range hw.2.2.2.2 (by omega)).2)) rfl rfl rfl ?_
  refine JL.step (y_assign rfl) rfl rfl rfl ?_
  refine JL.nil (JE.then_normal (J.ret ?_))
  refine JE.ret1 (.inl rfl) rfl rfl (by (first | exact RV.tmp rfl | exact RV.cell1 hT rfl rfl rfl (by (exact Rd1.row (by (repeat (first | exact Pick.head | apply Pick.tail | apply Pick.app))) (by rfl))) | exact RV.cellN hT rfl rfl rfl (by (first | exact RdN.rowAll (by (repeat (first | exact Pick.head | apply Pick.tail | apply Pick.app))) | exact RdN.own (by (repeat (first | exact Pick.head | apply Pick.tail | apply Pick.app))))) (by (first | rfl | assumption | (simp; done) | omega)))) ?_
  refine ⟨?_, fun w h => h.sup (by (repeat (first | exact Sup.refl | apply Sup.cons (by (repeat (first | exact Pick.head | apply Pick.tail | apply Pick.app))) | apply Sup.app | apply Sup.skip | apply Sup.skips)))⟩
  congr 1
  unfold eachZ
  first
  | (rw [if_pos (by first | exact .inl (by omega) | exact .inr (by assumption))]; done)
  | (rw [if_neg (by rintro (q | q); (omega); (first | exact q (by assumption) | exact absurd q (by assumption)))]; done)
theorem rbursts_spec (p : Option Addr) (n c : Nat) (ws : List WireT) (cl : Int) (l : List HProp) (hn : ws.length = n) (hn8 : n ≤ 1000) (hw : ∀ w ∈ ws, WiOk w) (hin : InL l p n c (ws.flatMap wiE)) :
 Fc prog E 29 [.slice p n c, .int .i64 cl].toArray l (fun v l' => ∃ a c', v = .slice a (refB cl ws).length c' ∧ l' = own 65 3 v (refB cl ws).length ((refB cl ws).flatMap buE) :: l) := by
 refine Fc.post ?_
 refine Fc.of_body (c := ?codeC) Tryd.func29 ?hb Tryd.ntmps29 ?hl ?_
 case hb => exact rfl
 case hl => exact rfl
 refine J.seq (J.region (JL.step (y_assign rfl) rfl rfl rfl ?_))
 refine JL.nil (JE.then_normal (J.seq (J.region (JL.step (y_assign rfl) rfl rfl rfl ?_))))
 refine JL.nil (JE.then_normal (J.seq (J.seq (J.region (JL.step (y_move rfl) rfl rfl rfl (JL.step (y_len_slice hT rfl rfl rfl) rfl rfl rfl (JL.step (y_move rfl) rfl rfl rfl ?_)))))))
 refine JL.nil (JE.then_normal (J.block ?_))
 refine J.pre (l' := own 65 3 (.slice none 0 0) 0 [] :: l) (fun w s => Sat.own_nil s) ?_
 refine J.loop (α := Nat × Option Addr × Nat) (fun s => s.1 ≤ n) (fun s => [(1, .int .i64 cl), (5, .slice s.2.1 (refB cl (ws.take s.1)).length s.2.2), (9, .slice p n c), (10, .int .i64 n), (11, .int .i64 s.1)]) (fun s => own 65 3 (.slice s.2.1 (refB cl (ws.take s.1)).length s.2.2) (refB cl (ws.take s.1)).length ((refB cl (ws.take s.1)).flatMap buE) :: l) (fun s => n - s.1) (0, none, 0) (Nat.zero_le _) ⟨rfl, rfl, rfl, rfl, rfl, trivial⟩ (fun w h => h) ?_
 rintro ⟨i, a, c'⟩ hi
 have hpl := refB_length cl (ws.take i)
 rw [List.length_take] at hpl
 dsimp only at hi ⊢
 refine J.seq (J.region (JL.step (y_lss rfl rfl) rfl rfl rfl ?_))
 refine JL.nil (JE.then_normal (J.seq ?_))
 first | apply J.cond_dec rfl | apply J.cond rfl
 case' ht =>
  intro h
  try (first | (exfalso; omega) | (cases h; done) | (exfalso; simp at h; done) | subst h)
  all_goals
   refine J.skip ?_
 case' hf =>
  intro h
  try (first | (exfalso; omega) | (cases h; done) | (exfalso; simp at h; done) | subst h)
  all_goals
   refine J.exit (JE.then_exit (JE.then_exit (JE.block_exit (JE.then_normal (J.seq (J.region (JL.step (y_move rfl) rfl rfl rfl (JL.step (y_assign rfl) rfl rfl rfl ?_))))))))
   refine JL.nil (JE.then_normal (J.ret ?_))
   refine JE.ret1 (.inl rfl) rfl rfl (by (first | exact RV.tmp rfl | exact RV.cell1 hT rfl rfl rfl (by (exact Rd1.row (by (repeat (first | exact Pick.head | apply Pick.tail | apply Pick.app))) (by rfl))) | exact RV.cellN hT rfl rfl rfl (by (first | exact RdN.rowAll (by (repeat (first | exact Pick.head | apply Pick.tail | apply Pick.app))) | exact RdN.own (by (repeat (first | exact Pick.head | apply Pick.tail | apply Pick.app))))) (by (first | rfl | assumption | (simp; done) | omega)))) ?_
   obtain rfl : i = n := by omega
   rw [List.take_of_length_le (by omega)]
   exact ⟨_, fun w h => h, a, c', rfl, rfl⟩
 all_goals refine JE.then_normal ?_
 all_goals
  refine J.seq (J.block (J.seq ?_))
  have hlt : i < n := by omega
  obtain ⟨w, hh⟩ : ∃ w, ws[i]? = some w := ⟨ws[i]'(by omega), List.getElem?_eq_getElem _⟩
  have hst := refB_take (c := cl) hh
  have hwk := hw w (List.mem_of_getElem? hh)
  obtain ⟨ys, hys⟩ : ∃ ys, refB cl (ws.take i) = ys := ⟨_, rfl⟩
  rw [hys] at hst hpl ⊢
  obtain ⟨g, o, rfl, hr⟩ := hin.addr (by omega)
  refine J.region ?_
  refine JL.fact (fun w s => Sat.own_at (s.pick Pick.head)) fun oy => ?_
  have hoy : ∀ b, InL (row b 38 (wiE w) :: own 65 3 (.slice a ys.length c') ys.length (ys.flatMap buE) :: l) a ys.length c' (ys.flatMap buE) := fun b => oy.inl (Pick.tail Pick.head)
  refine JL.step (y_indexAddr_slice hT rfl rfl rfl rfl rfl (by (first | omega | exact Nat.le_of_ble_eq_true rfl | decide | (simp; omega))) (by (first | omega | exact Nat.le_of_ble_eq_true rfl | decide | (simp; omega)))) rfl rfl rfl ?_
  refine JL.step (y_loadN hT rfl rfl rfl (RdN.elem ((hr []).cons _) (fun x _ => wiE_length x) hh) rfl) rfl rfl rfl ?_
  refine JL.loud rfl (l_alloc hT rfl rfl (by (first | rfl | simp)) rfl (fun b1 => ?_))
  refine JL.loud rfl (l_storeAll hT rfl rfl rfl (by (first | rfl | assumption | (simp; done) | omega)) (by (first | assumption | exact ones_of rfl | exact encW_one _ | exact encB_one _ | (intro u hu; simp at hu; rcases hu with rfl | rfl <;> rfl) | (intro u hu; simp at hu; subst hu; rfl) | simp)) (by (repeat (first | exact Pick.head | apply Pick.tail | apply Pick.app))) (by (first | rfl | assumption | (simp; done) | omega)) ?_)
  refine JL.nil (JE.then_normal (J.seq (J.seq (J.region (JL.step (y_fieldAddr hT rfl rfl rfl rfl rfl rfl) rfl rfl rfl ?_)))))
  refine JL.step (y_load1 hT rfl rfl rfl (by (exact Rd1.row (by (repeat (first | exact Pick.head | apply Pick.tail | apply Pick.app))) (by rfl)))) rfl rfl rfl ?_
  refine JL.step (y_move rfl) rfl rfl rfl (JL.step (y_neq rfl rfl) rfl rfl rfl (JL.step (y_move rfl) rfl rfl rfl ?_))
  all_goals (first | (refine JL.gsplit_dec rfl rfl rfl (fun h => ?_) (fun h => ?_) <;> try (first | (exfalso; omega) | exact absurd rfl h)) | (refine JL.gsplit rfl rfl rfl (fun h => ?_) (fun h => ?_) <;> try (first | cases h | (exfalso; simp at h; done))) | skip)
  all_goals (first | refine JL.gskip rfl rfl rfl rfl rfl rfl ?_ | refine JL.gskipU rfl rfl rfl rfl rfl ?_ | refine JL.gstep rfl rfl rfl (y_fieldAddr hT rfl rfl rfl rfl rfl rfl) rfl rfl ?_)
  all_goals (first | refine JL.gskip rfl rfl rfl rfl rfl rfl ?_ | refine JL.gskipU rfl rfl rfl rfl rfl ?_ | refine JL.gstep rfl rfl rfl (y_load1 hT rfl rfl rfl (by (exact Rd1.row (by (repeat (first | exact Pick.head | apply Pick.tail | apply Pick.app))) (by rfl)))) rfl rfl ?_)
  all_goals (first | refine JL.gskip rfl rfl rfl rfl rfl rfl ?_ | refine JL.gskipU rfl rfl rfl rfl rfl ?_ | refine JL.gstep rfl rfl rfl (y_neq rfl rfl) rfl rfl ?_)
  all_goals (refine JL.step (y_pick rfl rfl rfl) rfl rfl rfl ?_)
  all_goals refine JL.nil (JE.then_normal ?_)
  all_goals
   first | apply J.cond_dec rfl | apply J.cond rfl
   case' ht =>
    intro h
    try (first | (exfalso; omega) | (cases h; done) | (exfalso; simp at h; done) | subst h)
    all_goals
     rw [show ofC cl w = false by unfold ofC; rw [decide_eq_false (by omega)], if_neg (by simp)] at hst
     refine J.exit (JE.then_exit (JE.block_exit (JE.then_normal (J.region ?_))))
     refine JL.step (y_add rfl rfl (by (first | exact wrap_i64 (by omega) (by omega) | rfl))) rfl rfl rfl ?_
     refine JL.step (y_move rfl) rfl rfl rfl ?_
     refine JL.nil ?_
     first
     | have zz : refB cl (ws.take (i + 1)) = ys := hst
       exact JE.round (s := (i, a, c')) (i + 1, a, c') (by dsimp only; omega) ⟨rfl, by dsimp only; rw [zz]; rfl, rfl, rfl, rfl, trivial⟩ (fun w2 h => by dsimp only; rw [zz]; exact h.sup (by (repeat (first | exact Sup.refl | apply Sup.cons (by (repeat (first | exact Pick.head | apply Pick.tail | apply Pick.app))) | apply Sup.app | apply Sup.skip | apply Sup.skips)))) (by dsimp only; omega)
     | have zz : refB cl (ws.take (i + 1)) = zs.set k (f.1, wr (f.2.1 + w.2.2.2.1), -1) := by rw [hst]; exact hzp
       exact JE.round (s := (i, a, c')) (i + 1, some ⟨g3, 0, none⟩, c3) (by dsimp only; omega) ⟨rfl, by dsimp only; rw [zz, List.length_set]; rfl, rfl, rfl, rfl, trivial⟩ (fun w2 h => by
        dsimp only
        rw [zz, List.length_set]
        have e : zs.set k (f.1, wr (f.2.1 + w.2.2.2.1), -1) = (zs.set k (f.1, wr (f.2.1 + w.2.2.2.1), f.2.2)).set k (f.1, wr (f.2.1 + w.2.2.2.1), -1) := by rw [List.set_set]
        rw [e, ← bu_set2 _ hf2, ← Nat.zero_add (k * 3)]
        exact h.sup (by (repeat (first | exact Sup.refl | apply Sup.cons (by (repeat (first | exact Pick.head | apply Pick.tail | apply Pick.app))) | apply Sup.app | apply Sup.skip | apply Sup.skips)))) (by dsimp only; omega)
     | have zz : refB cl (ws.take (i + 1)) = zs.set k (f.1, wr (f.2.1 + w.2.2.2.1), f.2.2) := by rw [hst]; exact hzp
       exact JE.round (s := (i, a, c')) (i + 1, some ⟨g3, 0, none⟩, c3) (by dsimp only; omega) ⟨rfl, by dsimp only; rw [zz, List.length_set]; rfl, rfl, rfl, rfl, trivial⟩ (fun w2 h => by dsimp only; rw [zz, List.length_set]; exact h.sup (by (repeat (first | exact Sup.refl | apply Sup.cons (by (repeat (first | exact Pick.head | apply Pick.tail | apply Pick.app))) | apply Sup.app | apply Sup.skip | apply Sup.skips)))) (by dsimp only; omega)
   case' hf =>
    intro h
    try (first | (exfalso; omega) | (cases h; done) | (exfalso; simp at h; done) | subst h)
    all_goals
     rw [show ofC cl w = true by unfold ofC; rw [decide_eq_true (by omega)], if_pos rfl] at hst
     refine J.skip ?_
  all_goals refine JE.then_normal ?_
  all_goals
   refine J.seq (J.region (JL.step (y_assign rfl) rfl rfl rfl ?_))
   refine JL.nil (JE.then_normal ?_)
   refine J.seqK (α := Nat) (fun k => k ≤ ys.length ∧ (∀ (j : Nat) (y : BurT), j < k → ys[j]? = some y → y.1 < w.1) ∧ ∀ y, ys[k]? = some y → ¬ y.1 < w.1) (fun k => [(1, .int .i64 cl), (5, .slice a ys.length c'), (7, .pointer (some ⟨b1, 0, none⟩)), (8, .int .i64 k), (9, .slice (some ⟨g, o, none⟩) n c), (10, .int .i64 n), (11, .int .i64 i)]) (fun _ => row b1 38 (wiE w) :: own 65 3 (.slice a ys.length c') ys.length (ys.flatMap buE) :: l) ?hj9 (fun hk9 => ?hf9)
   case hf9 =>
    refine J.block ?_
    refine J.loop (α := Nat) (fun k => k ≤ ys.length ∧ ∀ (j : Nat) (y : BurT), j < k → ys[j]? = some y → y.1 < w.1) (fun k => [(1, .int .i64 cl), (5, .slice a ys.length c'), (7, .pointer (some ⟨b1, 0, none⟩)), (8, .int .i64 k), (9, .slice (some ⟨g, o, none⟩) n c), (10, .int .i64 n), (11, .int .i64 i)]) (fun _ => row b1 38 (wiE w) :: own 65 3 (.slice a ys.length c') ys.length (ys.flatMap buE) :: l) (fun k => ys.length - k) 0 ⟨Nat.zero_le _, by omega⟩ ⟨rfl, rfl, rfl, rfl, rfl, rfl, rfl, trivial⟩ (fun w h => h) ?_
    rintro k ⟨hk, hbl⟩
    try dsimp only
    refine J.seq (J.seq ?_)
    obtain hg | ⟨y, hg, hy, hgc⟩ : ¬ k < ys.length ∨ ∃ y, k < ys.length ∧ ys[k]? = some y ∧ (y.1 < w.1 ∨ ¬ y.1 < w.1) := by
     by_cases q : k < ys.length
     · exact .inr ⟨ys[k], q, List.getElem?_eq_getElem _, by omega⟩
     · exact .inl q
    rotate_left
    rcases hgc with q1 | q1
    all_goals try (obtain ⟨g2, o2, rfl, hr2⟩ := (hoy b1).addr (by omega); have hr3 : RdN _ g2 (o2 + k * 3) (buE y) := RdN.elem (hr2 []) (fun x _ => buE_length x) hy)
    all_goals
     refine J.draw _ _ [(0, .q), (1, .q), (2, .q), (3, .q), (4, .q), (5, .q), (6, .q), (7, .q), (8, .q), (9, .q), (10, .q), (11, .q), (12, .q), (13, .q)] mixed (by kernel_rfl) (Split.nil) ?_
     refine JM.quiet rfl rfl rfl rfl (fun m => y_move rfl) (JM.quiet rfl rfl rfl rfl (fun m => y_move rfl) (JM.quiet rfl rfl rfl rfl (fun m => y_len_slice hT rfl rfl rfl) ?_))
     first | refine JM.quiet rfl rfl rfl rfl (fun m => y_lssB rfl rfl (decide_eq_true (by omega))) ?_ | refine JM.quiet rfl rfl rfl rfl (fun m => y_lssB rfl rfl (decide_eq_false (by omega))) ?_
     refine JM.quiet rfl rfl rfl rfl (fun m => y_move rfl) ?_
     all_goals (first | refine JM.gskip rfl rfl rfl rfl rfl rfl rfl ?_ | refine JM.gskipU rfl rfl rfl rfl rfl rfl ?_ | refine JM.gquiet rfl rfl rfl rfl rfl rfl (fun m => y_move rfl) ?_)
     all_goals (first | refine JM.gskip rfl rfl rfl rfl rfl rfl rfl ?_ | refine JM.gskipU rfl rfl rfl rfl rfl rfl ?_ | refine JM.gquiet rfl rfl rfl rfl rfl rfl (fun m => y_move rfl) ?_)
     all_goals (first | refine JM.gskip rfl rfl rfl rfl rfl rfl rfl ?_ | refine JM.gskipU rfl rfl rfl rfl rfl rfl ?_ | refine JM.gquiet rfl rfl rfl rfl rfl rfl (fun m => y_indexAddr_slice hT rfl rfl rfl rfl rfl (by (first | omega | exact Nat.le_of_ble_eq_true rfl | decide | (simp; omega))) (by (first | omega | exact Nat.le_of_ble_eq_true rfl | decide | (simp; omega)))) ?_)
     all_goals (first | refine JM.gskip rfl rfl rfl rfl rfl rfl rfl ?_ | refine JM.gskipU rfl rfl rfl rfl rfl rfl ?_ | refine JM.gquiet rfl rfl rfl rfl rfl rfl (fun m => y_fieldAddr hT rfl rfl rfl rfl rfl rfl) ?_)
     all_goals (first | refine JM.gskip rfl rfl rfl rfl rfl rfl rfl ?_ | refine JM.gskipU rfl rfl rfl rfl rfl rfl ?_ | refine JM.gquiet rfl rfl rfl rfl rfl rfl (fun m => y_load1 hT rfl rfl rfl (Rd1.ofN (j := 0) (hr3.app m) rfl)) ?_)
     all_goals (first | refine JM.gskip rfl rfl rfl rfl rfl rfl rfl ?_ | refine JM.gskipU rfl rfl rfl rfl rfl rfl ?_ | refine JM.gquiet rfl rfl rfl rfl rfl rfl (fun m => y_fieldAddr hT rfl rfl rfl rfl rfl rfl) ?_)
     all_goals (first | refine JM.gskip rfl rfl rfl rfl rfl rfl rfl ?_ | refine JM.gskipU rfl rfl rfl rfl rfl rfl ?_ | refine JM.gquiet rfl rfl rfl rfl rfl rfl (fun m => y_load1 hT rfl rfl rfl (by (exact Rd1.row (Pick.app m (by (repeat (first | exact Pick.head | apply Pick.tail | apply Pick.app)))) (by rfl)))) ?_)
     all_goals (first | refine JM.gskip rfl rfl rfl rfl rfl rfl rfl ?_ | refine JM.gskipU rfl rfl rfl rfl rfl rfl ?_ | refine JM.gquiet rfl rfl rfl rfl rfl rfl (fun m => y_lssB rfl rfl (decide_eq_true (by omega))) ?_ | refine JM.gquiet rfl rfl rfl rfl rfl rfl (fun m => y_lssB rfl rfl (decide_eq_false (by omega))) ?_)
     all_goals refine JM.quiet rfl rfl rfl rfl (fun m => y_pick rfl rfl rfl) ?_
     all_goals refine JM.nil ?_
    all_goals refine JE.then_normal ?_
    all_goals
     first | apply J.cond_dec rfl | apply J.cond rfl
     case' ht =>
      intro h
      try (first | (exfalso; omega) | (cases h; done) | (exfalso; simp at h; done) | subst h)
      all_goals
       refine J.skip ?_
     case' hf =>
      intro h
      try (first | (exfalso; omega) | (cases h; done) | (exfalso; simp at h; done) | subst h)
      all_goals
       refine J.exit (JE.then_exit (JE.then_exit (JE.block_exit (JE.then_normal ?_))))
       first
       | exact J.closeK hk9 k ⟨hk, hbl, fun y' hy' => by rw [List.getElem?_eq_none (by omega)] at hy'; cases hy'⟩ ⟨rfl, rfl, rfl, rfl, rfl, rfl, rfl, trivial⟩ (fun w h => h)
       | exact J.closeK hk9 k ⟨hk, hbl, fun y' hy' => by rw [hy] at hy'; cases hy'; exact q1⟩ ⟨rfl, rfl, rfl, rfl, rfl, rfl, rfl, trivial⟩ (fun w h => h)
    all_goals refine JE.then_normal ?_
    all_goals
     refine J.block (J.region (JL.step (y_move rfl) rfl rfl rfl ?_))
     refine JL.step (y_add rfl rfl (by (first | exact wrap_i64 (by omega) (by omega) | rfl))) rfl rfl rfl ?_
     refine JL.step (y_assign rfl) rfl rfl rfl ?_
     refine JL.nil (JE.block_normal ?_)
    all_goals
     exact JE.round (s := k) (k + 1) ⟨by omega, fun j y' hj hy' => by
      rcases Nat.lt_or_ge j k with q | q
      · exact hbl j y' q hy'
      · obtain rfl : j = k := by omega
        rw [hy] at hy'
        cases hy'
        exact q1⟩ ⟨rfl, rfl, rfl, rfl, rfl, rfl, rfl, trivial⟩ (fun w h => h) (by omega)
   rintro k ⟨hk, hbl, hge⟩
   try dsimp only
   have hpu := plB_at hk hbl hge
   refine J.seqK (α := Option Addr × Nat × List BurT × BurT) (fun s => s.2.2.1[k]? = some s.2.2.2 ∧ s.2.2.1.length ≤ ys.length + 1 ∧ plB w ys = s.2.2.1.set k (s.2.2.2.1, wr (s.2.2.2.2.1 + w.2.2.2.1), if s.2.2.2.2.2 ≠ eachZ w then -1 else s.2.2.2.2.2)) (fun s => [(1, .int .i64 cl), (5, .slice s.1 s.2.2.1.length s.2.1), (7, .pointer (some ⟨b1, 0, none⟩)), (8, .int .i64 k), (9, .slice (some ⟨g, o, none⟩) n c), (10, .int .i64 n), (11, .int .i64 i)]) (fun s => own 65 3 (.slice s.1 s.2.2.1.length s.2.1) s.2.2.1.length (s.2.2.1.flatMap buE) :: row b1 38 (wiE w) :: l) ?hj11 (fun hk11 => ?hf11)
   case hf11 =>
    refine J.seq ?_
    obtain hg | ⟨y, hg, hy, hgc⟩ : ¬ k < ys.length ∨ ∃ y, k < ys.length ∧ ys[k]? = some y ∧ (y.1 ≠ w.1 ∨ y.1 = w.1) := by
     by_cases q : k < ys.length
     · exact .inr ⟨ys[k], q, List.getElem?_eq_getElem _, by omega⟩
     · exact .inl q
    rotate_left
    rcases hgc with q1 | q1
    all_goals try (obtain ⟨g2, o2, rfl, hr2⟩ := (hoy b1).addr (by omega); have hr3 : RdN _ g2 (o2 + k * 3) (buE y) := RdN.elem (hr2 []) (fun x _ => buE_length x) hy)
    all_goals
     refine J.draw _ _ [(0, .q), (1, .q), (2, .q), (3, .q), (4, .q), (5, .q), (6, .q), (7, .q), (8, .q), (9, .q), (10, .q), (11, .q), (12, .q), (13, .q)] mixed (by kernel_rfl) (Split.nil) ?_
     refine JM.quiet rfl rfl rfl rfl (fun m => y_move rfl) (JM.quiet rfl rfl rfl rfl (fun m => y_move rfl) (JM.quiet rfl rfl rfl rfl (fun m => y_len_slice hT rfl rfl rfl) ?_))
     first | refine JM.quiet rfl rfl rfl rfl (fun m => y_eqlB rfl rfl (decide_eq_true (by omega))) ?_ | refine JM.quiet rfl rfl rfl rfl (fun m => y_eqlB rfl rfl (decide_eq_false (by omega))) ?_
     refine JM.quiet rfl rfl rfl rfl (fun m => y_move rfl) ?_
     all_goals (first | refine JM.gskip rfl rfl rfl rfl rfl rfl rfl ?_ | refine JM.gskipU rfl rfl rfl rfl rfl rfl ?_ | refine JM.gquiet rfl rfl rfl rfl rfl rfl (fun m => y_move rfl) ?_)
     all_goals (first | refine JM.gskip rfl rfl rfl rfl rfl rfl rfl ?_ | refine JM.gskipU rfl rfl rfl rfl rfl rfl ?_ | refine JM.gquiet rfl rfl rfl rfl rfl rfl (fun m => y_move rfl) ?_)
     all_goals (first | refine JM.gskip rfl rfl rfl rfl rfl rfl rfl ?_ | refine JM.gskipU rfl rfl rfl rfl rfl rfl ?_ | refine JM.gquiet rfl rfl rfl rfl rfl rfl (fun m => y_indexAddr_slice hT rfl rfl rfl rfl rfl (by (first | omega | exact Nat.le_of_ble_eq_true rfl | decide | (simp; omega))) (by (first | omega | exact Nat.le_of_ble_eq_true rfl | decide | (simp; omega)))) ?_)
     all_goals (first | refine JM.gskip rfl rfl rfl rfl rfl rfl rfl ?_ | refine JM.gskipU rfl rfl rfl rfl rfl rfl ?_ | refine JM.gquiet rfl rfl rfl rfl rfl rfl (fun m => y_fieldAddr hT rfl rfl rfl rfl rfl rfl) ?_)
     all_goals (first | refine JM.gskip rfl rfl rfl rfl rfl rfl rfl ?_ | refine JM.gskipU rfl rfl rfl rfl rfl rfl ?_ | refine JM.gquiet rfl rfl rfl rfl rfl rfl (fun m => y_load1 hT rfl rfl rfl (Rd1.ofN (j := 0) (hr3.app m) rfl)) ?_)
     all_goals (first | refine JM.gskip rfl rfl rfl rfl rfl rfl rfl ?_ | refine JM.gskipU rfl rfl rfl rfl rfl rfl ?_ | refine JM.gquiet rfl rfl rfl rfl rfl rfl (fun m => y_fieldAddr hT rfl rfl rfl rfl rfl rfl) ?_)
     all_goals (first | refine JM.gskip rfl rfl rfl rfl rfl rfl rfl ?_ | refine JM.gskipU rfl rfl rfl rfl rfl rfl ?_ | refine JM.gquiet rfl rfl rfl rfl rfl rfl (fun m => y_load1 hT rfl rfl rfl (by (exact Rd1.row (Pick.app m (by (repeat (first | exact Pick.head | apply Pick.tail | apply Pick.app)))) (by rfl)))) ?_)
     all_goals (first | refine JM.gskip rfl rfl rfl rfl rfl rfl rfl ?_ | refine JM.gskipU rfl rfl rfl rfl rfl rfl ?_ | refine JM.gquiet rfl rfl rfl rfl rfl rfl (fun m => y_neqB rfl rfl (decide_eq_true (by omega))) ?_ | refine JM.gquiet rfl rfl rfl rfl rfl rfl (fun m => y_neqB rfl rfl (decide_eq_false (by omega))) ?_)
     all_goals refine JM.quiet rfl rfl rfl rfl (fun m => y_pick rfl rfl rfl) ?_
     all_goals refine JM.nil ?_
    all_goals refine JE.then_normal ?_
    all_goals
     first | apply J.cond_dec rfl | apply J.cond rfl
     case' ht =>
      intro h
      try (first | (exfalso; omega) | (cases h; done) | (exfalso; simp at h; done) | subst h)
      all_goals
       all_goals
        have hins : plB w ys = ys.take k ++ (w.1, wr (0 + w.2.2.2.1), eachZ w) :: ys.drop k := by
         first
         | (rw [hy] at hpu; dsimp only at hpu; rw [if_neg (by omega)] at hpu; exact hpu)
         | (rw [List.getElem?_eq_none (by omega)] at hpu; exact hpu)
       all_goals obtain ⟨gb, ob, hp0, hb1, hb2⟩ := (hoy b1).both (k := k) (s := 3) hk (by rw [bus_len])
       all_goals have hle := (hoy b1).le
       all_goals
        refine J.draw _ _ [(0, .q), (1, .q), (2, .q), (3, .q), (4, .q), (5, .q), (6, .q), (7, .q), (8, .q), (10, .q), (11, .q), (12, .q), (9, .l), (13, .l), (14, .l), (15, .q)] mixed (by kernel_rfl) (Split.nil) ?_
        refine JM.quiet rfl rfl rfl rfl (fun m => y_move rfl) (JM.quiet rfl rfl rfl rfl (fun m => y_move rfl) (JM.quiet rfl rfl rfl rfl (fun m => y_move rfl) ?_))
        refine JM.quiet rfl rfl rfl rfl (fun m => y_slice3 (lo := 0) (hi := k) (mx := k) hT rfl rfl rfl rfl (.inl ⟨rfl, rfl⟩) rfl rfl rfl rfl (Nat.zero_le _) (Nat.le_refl _) (by omega) hp0) ?_
        refine JM.quiet rfl rfl rfl rfl (fun m => y_fieldAddr hT rfl rfl rfl rfl rfl rfl) ?_
        refine JM.quiet rfl rfl rfl rfl (fun m => y_load1 hT rfl rfl rfl (by (exact Rd1.row (Pick.app m (by (repeat (first | exact Pick.head | apply Pick.tail | apply Pick.app)))) (by rfl)))) ?_
        refine JM.quiet rfl rfl rfl rfl (fun m => y_loadN hT rfl rfl rfl (by (first | exact RdN.rowAll (Pick.app m (by (repeat (first | exact Pick.head | apply Pick.tail | apply Pick.app)))) | exact RdN.own (Pick.app m (by (repeat (first | exact Pick.head | apply Pick.tail | apply Pick.app)))))) (by (first | rfl | assumption | (simp; done) | omega))) ?_
        refine JM.quiet rfl rfl rfl rfl (fun m => y_callF e53 rfl (reach_spec E w hwk _)) (JM.quiet rfl rfl rfl rfl (fun m => y_build (cs := buE (w.1, 0, eachZ w)) hT rfl rfl rfl rfl rfl rfl ⟨⟨rfl, Nat.le_of_ble_eq_true rfl⟩, ⟨rfl, Nat.le_of_ble_eq_true rfl⟩, trivial⟩ rfl) (JM.quiet rfl rfl rfl rfl (fun m => y_move rfl) (JM.quiet rfl rfl rfl rfl (fun m => y_move rfl) ?_)))
        refine JM.quiet rfl rfl rfl rfl (fun m => y_slice (lo := k) (hi := ys.length) hT rfl rfl rfl rfl (.inr ⟨_, _, _, rfl, rfl, rfl⟩) (.inl ⟨rfl, rfl⟩) hk (by omega) (by omega) hp0) ?_
        refine JM.loud rfl rfl (fun fr => l_buildSliceO (cs := buE (w.1, 0, eachZ w)) hT rfl rfl rfl rfl rfl rfl rfl (fill_one rfl rfl) rfl rfl (by unfold maxLen; omega) (fun b5 => ⟨[_], (by (repeat (first | exact Split.nil | exact Split.all | refine Split.cons Pick.head ?_))), ?_⟩))
        refine JM.loud rfl rfl (fun fr => l_appendIn hT rfl rfl rfl rfl rfl rfl rfl rfl (by (repeat (first | exact Pick.head | apply Pick.tail | apply Pick.app))) ((hb2.app fr).app _) (by rw [show i65.size = 3 from rfl, List.length_drop, bus_len]; omega) (fun u hu => bus_one ys u (List.mem_of_mem_drop hu)) (by rw [show i65.bytes = 24 from rfl]; omega) (by omega) rfl (fun a9 c9 hc9 => ⟨[_], (by (repeat (first | exact Split.nil | exact Split.all | refine Split.cons Pick.head ?_))), ?_⟩))
        refine JM.loud rfl rfl (fun fr => LS.fact (fun w s => Sat.own_at (s.pick Pick.head)) fun o9 => l_appendClipIn hT rfl rfl rfl rfl rfl rfl rfl ((hb1.app fr).app _) (by rw [show i65.size = 3 from rfl, List.length_take, bus_len]; omega) (o9.inl Pick.head) (by rw [show i65.size = 3 from rfl, List.length_append, List.length_drop, bus_len, buE_length]; omega) (by omega) (by rw [show i65.bytes = 24 from rfl]; omega) (by omega) rfl (fun a10 c10 hc10 => ⟨[_, _], (by (repeat (first | exact Split.nil | exact Split.all | refine Split.cons Pick.head ?_))), ?_⟩))
        refine JM.quiet rfl rfl rfl rfl (fun m => y_assign rfl) ?_
        refine JM.nil ?_
     case' hf =>
      intro h
      try (first | (exfalso; omega) | (cases h; done) | (exfalso; simp at h; done) | subst h)
      all_goals
       refine J.skip ?_
    all_goals refine JE.then_normal ?_
    all_goals
     first
     | exact J.closeK hk11 (a10, c10, ys.take k ++ (w.1, 0, eachZ w) :: ys.drop k, (w.1, 0, eachZ w)) ⟨by
        dsimp only
        rw [List.getElem?_append_right (by rw [List.length_take]; omega), List.length_take, Nat.min_eq_left hk, Nat.sub_self]; rfl, by
        dsimp only
        rw [List.length_append, List.length_cons, List.length_take, List.length_drop]; omega, by
        dsimp only
        rw [hins, List.set_append_right _ _ (by rw [List.length_take]; omega), List.length_take, Nat.min_eq_left hk, Nat.sub_self, if_neg (by simp)]; rfl⟩ ⟨rfl, by
        dsimp only
        rw [show (ys.take k ++ (w.1, 0, eachZ w) :: ys.drop k).length = k - 0 + (1 + (ys.length - k)) by rw [List.length_append, List.length_cons, List.length_take, List.length_drop]; omega]
        rfl, rfl, rfl, rfl, rfl, rfl, trivial⟩ (fun w2 h => by
        dsimp only
        rw [show (ys.take k ++ (w.1, 0, eachZ w) :: ys.drop k).length = k - 0 + (1 + (ys.length - k)) by rw [List.length_append, List.length_cons, List.length_take, List.length_drop]; omega]
        have e : (ys.take k ++ (w.1, 0, eachZ w) :: ys.drop k).flatMap buE = (ys.flatMap buE).take (k * 3) ++ (buE (w.1, 0, eachZ w) ++ (ys.flatMap buE).drop (k * 3)) := by
         rw [List.flatMap_append, List.flatMap_cons, seg_take fun x _ => buE_length x, seg_drop fun x _ => buE_length x]
        rw [e]
        exact h.sup (by (repeat (first | exact Sup.refl | apply Sup.cons (by (repeat (first | exact Pick.head | apply Pick.tail | apply Pick.app))) | apply Sup.app | apply Sup.skip | apply Sup.skips))))
     | exact J.closeK hk11 (some ⟨g2, o2, none⟩, c', ys, y) ⟨hy, by dsimp only; omega, by rw [hy] at hpu; dsimp only at hpu; rw [if_pos q1] at hpu; exact hpu⟩ ⟨rfl, rfl, rfl, rfl, rfl, rfl, rfl, trivial⟩ (fun w h => h.sup (by (repeat (first | exact Sup.refl | apply Sup.cons (by (repeat (first | exact Pick.head | apply Pick.tail | apply Pick.app))) | apply Sup.app | apply Sup.skip | apply Sup.skips))))
   rintro ⟨a3, c3, zs, f⟩ ⟨hf, hzl, hzp⟩
   dsimp only at hf hzl hzp ⊢
   have hkz : k < zs.length := (List.getElem?_eq_some_iff.1 hf).1
   refine J.fact (fun w s => Sat.own_at (s.pick Pick.head)) fun o3 => ?_
   obtain ⟨g3, rfl⟩ : ∃ g3, a3 = some ⟨g3, 0, none⟩ := by
    rcases o3.at_ with q | ⟨q, _⟩
    · exact q
    · have := o3.le; omega
   have hr4 : ∀ (fs : List BurT) (f : BurT) (r : List HProp), fs[k]? = some f → RdN (own 65 3 (.slice (some ⟨g3, 0, none⟩) zs.length c3) zs.length (fs.flatMap buE) :: r) g3 (0 + k * 3) (buE f) := fun fs f r h => RdN.elem (RdN.own Pick.head) (fun x _ => buE_length x) h
   refine J.seq ?_
   refine J.draw _ _ [(0, .q), (1, .q), (2, .q), (3, .q), (5, .q), (6, .q), (4, .e), (7, .q), (8, .q), (9, .q), (10, .l)] mixed (by kernel_rfl) (Split.cons (Pick.head) (Split.nil)) ?_
   refine JM.quiet rfl rfl rfl rfl (fun m => y_move rfl) (JM.quiet rfl rfl rfl rfl (fun m => y_move rfl) ?_)
   refine JM.quiet rfl rfl rfl rfl (fun m => y_indexAddr_slice hT rfl rfl rfl rfl rfl (by (first | omega | exact Nat.le_of_ble_eq_true rfl | decide | (simp; omega))) (by (first | omega | exact Nat.le_of_ble_eq_true rfl | decide | (simp; omega)))) ?_
   refine JM.quiet rfl rfl rfl rfl (fun m => y_fieldAddr hT rfl rfl rfl rfl rfl rfl) (JM.quiet rfl rfl rfl rfl (fun m => y_fieldAddr hT rfl rfl rfl rfl rfl rfl) ?_)
   refine JM.quiet rfl rfl rfl rfl (fun m => y_load1 hT rfl rfl rfl (by (exact Rd1.row (Pick.app m (by (repeat (first | exact Pick.head | apply Pick.tail | apply Pick.app)))) (by rfl)))) ?_
   refine JM.early rfl rfl rfl rfl (fun fr => y_load1 hT rfl rfl rfl (Rd1.ofN (j := 1) (hr4 zs f _ hf) rfl)) ?_
   refine JM.quiet rfl rfl rfl rfl (fun m => y_add (m := wr (f.2.1 + w.2.2.2.1)) rfl rfl rfl) ?_
   refine JM.quiet rfl rfl rfl rfl (fun m => y_indexAddr_slice hT rfl rfl rfl rfl rfl (by (first | omega | exact Nat.le_of_ble_eq_true rfl | decide | (simp; omega))) (by (first | omega | exact Nat.le_of_ble_eq_true rfl | decide | (simp; omega)))) ?_
   refine JM.quiet rfl rfl rfl rfl (fun m => y_fieldAddr hT rfl rfl rfl rfl rfl rfl) ?_
   refine JM.loud rfl rfl (fun fr => l_storeOwn1 hT rfl rfl rfl rfl rfl (by (repeat (first | exact Pick.head | apply Pick.tail | apply Pick.app))) (by rw [bus_len]; show 0 + k * 3 + 1 < _; omega) ⟨[_], (by (repeat (first | exact Split.nil | exact Split.all | refine Split.cons Pick.head ?_))), ?_⟩)
   refine JM.nil (JE.then_normal (J.seq ?_))
   refine J.pre (l' := own 65 3 (.slice (some ⟨g3, 0, none⟩) zs.length c3) zs.length ((zs.set k (f.1, wr (f.2.1 + w.2.2.2.1), f.2.2)).flatMap buE) :: row b1 38 (wiE w) :: l) (fun w s => by rw [← bu_set1 _ hf, ← Nat.zero_add (k * 3)]; exact s.sup (by (repeat (first | exact Sup.refl | apply Sup.cons (by (repeat (first | exact Pick.head | apply Pick.tail | apply Pick.app))) | apply Sup.app | apply Sup.skip | apply Sup.skips)))) ?_
   have hf2 : (zs.set k (f.1, wr (f.2.1 + w.2.2.2.1), f.2.2))[k]? = some (f.1, wr (f.2.1 + w.2.2.2.1), f.2.2) := by rw [List.getElem?_set_self hkz]
   refine J.draw _ _ [(0, .q), (1, .q), (2, .q), (3, .q), (4, .q), (5, .q), (6, .q), (7, .q)] mixed (by kernel_rfl) (Split.nil) ?_
   refine JM.quiet rfl rfl rfl rfl (fun m => y_move rfl) (JM.quiet rfl rfl rfl rfl (fun m => y_move rfl) ?_)
   refine JM.quiet rfl rfl rfl rfl (fun m => y_indexAddr_slice hT rfl rfl rfl rfl rfl (by (first | omega | exact Nat.le_of_ble_eq_true rfl | decide | (simp; omega))) (by (first | omega | exact Nat.le_of_ble_eq_true rfl | decide | (simp; omega)))) ?_
   refine JM.quiet rfl rfl rfl rfl (fun m => y_fieldAddr hT rfl rfl rfl rfl rfl rfl) (JM.quiet rfl rfl rfl rfl (fun m => y_load1 hT rfl rfl rfl (Rd1.ofN (j := 2) ((hr4 _ _ _ hf2).app m) rfl)) ?_)
   refine JM.quiet rfl rfl rfl rfl (fun m => y_loadN hT rfl rfl rfl (by (first | exact RdN.rowAll (Pick.app m (by (repeat (first | exact Pick.head | apply Pick.tail | apply Pick.app)))) | exact RdN.own (Pick.app m (by (repeat (first | exact Pick.head | apply Pick.tail | apply Pick.app)))))) (by (first | rfl | assumption | (simp; done) | omega))) ?_
   refine JM.quiet rfl rfl rfl rfl (fun m => y_callF e53 rfl (reach_spec E w hwk _)) (JM.quiet rfl rfl rfl rfl (fun m => y_neq rfl rfl) ?_)
   refine JM.nil (JE.then_normal ?_)
   first | apply J.cond_dec rfl | apply J.cond rfl
   case' ht =>
    intro h
    try (first | (exfalso; omega) | (cases h; done) | (exfalso; simp at h; done) | subst h)
    all_goals
     rw [if_pos (by assumption)] at hzp
     refine J.region (JL.step (y_move rfl) rfl rfl rfl (JL.step (y_move rfl) rfl rfl rfl ?_))
     refine JL.step (y_indexAddr_slice hT rfl rfl rfl rfl rfl (by (first | omega | exact Nat.le_of_ble_eq_true rfl | decide | (simp; omega))) (by (first | omega | exact Nat.le_of_ble_eq_true rfl | decide | (simp; omega)))) rfl rfl rfl ?_
     refine JL.step (y_fieldAddr hT rfl rfl rfl rfl rfl rfl) rfl rfl rfl ?_
     refine JL.loud rfl (l_storeOwn1 hT rfl rfl rfl rfl rfl (by (repeat (first | exact Pick.head | apply Pick.tail | apply Pick.app))) (by rw [bus_len, List.length_set]; show 0 + k * 3 + 2 < _; omega) ?_)
     refine JL.nil ?_
   case' hf =>
    intro h
    try (first | (exfalso; omega) | (cases h; done) | (exfalso; simp at h; done) | subst h)
    all_goals
     rw [if_neg (by assumption)] at hzp
     refine J.skip ?_
  all_goals refine JE.block_normal (JE.then_normal ?_)
  all_goals
   refine J.region ?_
   refine JL.step (y_add rfl rfl (by (first | exact wrap_i64 (by omega) (by omega) | rfl))) rfl rfl rfl ?_
   refine JL.step (y_move rfl) rfl rfl rfl ?_
   refine JL.nil ?_
 all_goals
  first
  | have zz : refB cl (ws.take (i + 1)) = ys := hst
    exact JE.round (s := (i, a, c')) (i + 1, a, c') (by dsimp only; omega) ⟨rfl, by dsimp only; rw [zz]; rfl, rfl, rfl, rfl, trivial⟩ (fun w2 h => by dsimp only; rw [zz]; exact h.sup (by (repeat (first | exact Sup.refl | apply Sup.cons (by (repeat (first | exact Pick.head | apply Pick.tail | apply Pick.app))) | apply Sup.app | apply Sup.skip | apply Sup.skips)))) (by dsimp only; omega)
  | have zz : refB cl (ws.take (i + 1)) = zs.set k (f.1, wr (f.2.1 + w.2.2.2.1), -1) := by rw [hst]; exact hzp
    exact JE.round (s := (i, a, c')) (i + 1, some ⟨g3, 0, none⟩, c3) (by dsimp only; omega) ⟨rfl, by dsimp only; rw [zz, List.length_set]; rfl, rfl, rfl, rfl, trivial⟩ (fun w2 h => by
     dsimp only
     rw [zz, List.length_set]
     have e : zs.set k (f.1, wr (f.2.1 + w.2.2.2.1), -1) = (zs.set k (f.1, wr (f.2.1 + w.2.2.2.1), f.2.2)).set k (f.1, wr (f.2.1 + w.2.2.2.1), -1) := by rw [List.set_set]
     rw [e, ← bu_set2 _ hf2, ← Nat.zero_add (k * 3)]
     exact h.sup (by (repeat (first | exact Sup.refl | apply Sup.cons (by (repeat (first | exact Pick.head | apply Pick.tail | apply Pick.app))) | apply Sup.app | apply Sup.skip | apply Sup.skips)))) (by dsimp only; omega)
  | have zz : refB cl (ws.take (i + 1)) = zs.set k (f.1, wr (f.2.1 + w.2.2.2.1), f.2.2) := by rw [hst]; exact hzp
    exact JE.round (s := (i, a, c')) (i + 1, some ⟨g3, 0, none⟩, c3) (by dsimp only; omega) ⟨rfl, by dsimp only; rw [zz, List.length_set]; rfl, rfl, rfl, rfl, trivial⟩ (fun w2 h => by dsimp only; rw [zz, List.length_set]; exact h.sup (by (repeat (first | exact Sup.refl | apply Sup.cons (by (repeat (first | exact Pick.head | apply Pick.tail | apply Pick.app))) | apply Sup.app | apply Sup.skip | apply Sup.skips)))) (by dsimp only; omega)
end
end
section
open Go Go.SL
section
def plaE (clients hops noise : Int) (sv rv : Value) : List Value := [.int .i64 clients, .int .i64 hops, .int .i64 noise, sv, rv]
def metI (L : List Int) : List (Int × Value) := L.map fun k => (k, .bool true)
theorem metI_put (L : List Int) (k : Int) : mput (metI L) k (.bool true) = metI (if k ∈ L then L else L ++ [k]) := by
 induction L with
 | nil => simp [metI, mput]
 | cons t L ih =>
   unfold metI at ih ⊢
   rw [List.map_cons, mput]
   by_cases h : k = t
   · subst h; rw [if_pos rfl]; simp
   · rw [if_neg h, ih]
     by_cases h2 : k ∈ L
     · simp [h2]
     · simp [h, h2]
theorem metI_look (L : List Int) (k : Int) : lookV false (mlook (metI L) k) (.bool false) = .bool (decide (k ∈ L)) := by
 induction L with
 | nil => simp [metI, mlook, lookV]
 | cons t L ih =>
   unfold metI at ih ⊢
   rw [List.map_cons, mlook]
   by_cases h : k = t
   · rw [if_pos h]; simp [lookV, h]
   · rw [if_neg h, ih]; simp [h]
theorem okB_iff {hops : Int} {b : BurT} : okB hops b ↔ ¬ b.2.1 < 1 ∧ b.2.1.tmod 3 = 0 ∧ b.2.2 = 157 + 48 * hops := by
 unfold okB
 rw [not_or, not_or, Decidable.not_not, Decidable.not_not]
end
section
attribute [local irreducible] J JL JE JM LS Y Fc RV Code.wp wpList Code.wpIn wpListIn
attribute [local irreducible] Yc
variable (E : World)
theorem onionSize_spec (hops : Int) (l : List HProp) : Fc prog E 54 [.int .i64 hops].toArray l (fun v l' => ∃ sz, v = .int .i64 sz ∧ (hops < 1 ∨ 3 < hops → sz = 0) ∧ (1 ≤ hops → hops ≤ 3 → sz = 146 + 48 * hops) ∧ l' = l) := by
 refine Fc.post ?_
 refine Fc.of_body (c := ?codeC) Tryd.func54 ?hb Tryd.ntmps54 ?hl ?_
 case hb => exact rfl
 case hl => exact rfl
 refine J.seq (J.region (JL.step (y_assign rfl) rfl rfl rfl ?_))
 refine JL.nil (JE.then_normal (J.seq (J.seq (J.region (JL.step (y_move rfl) rfl rfl rfl (JL.step (y_lss rfl rfl) rfl rfl rfl (JL.step (y_move rfl) rfl rfl rfl ?_)))))))
 all_goals (first | (refine JL.gsplit_dec rfl rfl rfl (fun h => ?_) (fun h => ?_) <;> try (first | (exfalso; omega) | exact absurd rfl h)) | (refine JL.gsplit rfl rfl rfl (fun h => ?_) (fun h => ?_) <;> try (first | cases h | (exfalso; simp at h; done))) | skip)
 all_goals (first | refine JL.gskip rfl rfl rfl rfl rfl rfl ?_ | refine JL.gskipU rfl rfl rfl rfl rfl ?_ | refine JL.gstep rfl rfl rfl (y_move rfl) rfl rfl ?_)
 all_goals (first | refine JL.gskip rfl rfl rfl rfl rfl rfl ?_ | refine JL.gskipU rfl rfl rfl rfl rfl ?_ | refine JL.gstep rfl rfl rfl (y_gtr rfl rfl) rfl rfl ?_)
 all_goals (refine JL.step (y_pick rfl rfl rfl) rfl rfl rfl ?_)
 all_goals refine JL.nil (JE.then_normal ?_)
 all_goals
  first | apply J.cond_dec rfl | apply J.cond rfl
  case' ht =>
   intro h
   try (first | (exfalso; omega) | (cases h; done) | (exfalso; simp at h; done) | subst h)
   all_goals
    refine J.seq (J.region (JL.step (y_assign rfl) rfl rfl rfl ?_))
    refine JL.nil (JE.then_normal (J.ret (JE.then_ret ?_)))
    refine JE.ret1 (.inl rfl) rfl rfl (by (first | exact RV.tmp rfl | exact RV.cell1 hT rfl rfl rfl (by (exact Rd1.row (by (repeat (first | exact Pick.head | apply Pick.tail | apply Pick.app))) (by rfl))) | exact RV.cellN hT rfl rfl rfl (by (first | exact RdN.rowAll (by (repeat (first | exact Pick.head | apply Pick.tail | apply Pick.app))) | exact RdN.own (by (repeat (first | exact Pick.head | apply Pick.tail | apply Pick.app))))) (by (first | rfl | assumption | (simp; done) | omega)))) ?_
    first
    | exact ⟨_, fun w h => h, 0, rfl, fun _ => rfl, by omega, rfl⟩
    | exact ⟨_, fun w h => h, 146 + 48 * hops, rfl, by omega, fun _ _ => rfl, rfl⟩
  case' hf =>
   intro h
   try (first | (exfalso; omega) | (cases h; done) | (exfalso; simp at h; done) | subst h)
   all_goals
    refine J.skip ?_
 all_goals refine JE.then_normal ?_
 all_goals
  refine J.seq (J.region (JL.step (y_move rfl) rfl rfl rfl ?_))
  refine JL.step (y_mul rfl rfl (by (first | exact wrap_i64 (by omega) (by omega) | rfl))) rfl rfl rfl ?_
  refine JL.step (y_add rfl rfl (by (first | exact wrap_i64 (by omega) (by omega) | rfl))) rfl rfl rfl ?_
  refine JL.step (y_assign rfl) rfl rfl rfl ?_
  refine JL.nil (JE.then_normal (J.ret ?_))
  refine JE.ret1 (.inl rfl) rfl rfl (by (first | exact RV.tmp rfl | exact RV.cell1 hT rfl rfl rfl (by (exact Rd1.row (by (repeat (first | exact Pick.head | apply Pick.tail | apply Pick.app))) (by rfl))) | exact RV.cellN hT rfl rfl rfl (by (first | exact RdN.rowAll (by (repeat (first | exact Pick.head | apply Pick.tail | apply Pick.app))) | exact RdN.own (by (repeat (first | exact Pick.head | apply Pick.tail | apply Pick.app))))) (by (first | rfl | assumption | (simp; done) | omega)))) ?_
  first
  | exact ⟨_, fun w h => h, 0, rfl, fun _ => rfl, by omega, rfl⟩
  | exact ⟨_, fun w h => h, 146 + 48 * hops, rfl, by omega, fun _ _ => rfl, rfl⟩
theorem steady_spec (clients hops noise : Int) (sv rv : Value) (p : Option Addr) (n c : Nat) (ws : List WireT) (l : List HProp) (hn : ws.length = n) (hn8 : n ≤ 1000) (hw : ∀ w ∈ ws, WiOk w) (hin : InL l p n c (ws.flatMap wiE)) :
 Fc prog E 30 [.agg (plaE clients hops noise sv rv).toArray, .slice p n c].toArray l (fun v l' => ∃ z, v = .bool z ∧ (z = true ↔ stP clients hops ws) ∧ l' = l) := by
 refine Fc.post ?_
 refine Fc.of_body (c := ?codeC) Tryd.func30 ?hb Tryd.ntmps30 ?hl ?_
 case hb => exact rfl
 case hl => exact rfl
 refine J.seq (J.region ?_)
 refine JL.loud rfl (l_box (cs := plaE clients hops noise sv rv) rfl rfl rfl (fun bP => ?_))
 refine JL.step (y_assign rfl) rfl rfl rfl ?_
 refine JL.nil (JE.then_normal (J.seq (J.region (JL.step (y_fieldAddr hT rfl rfl rfl rfl rfl rfl) rfl rfl rfl ?_))))
 refine JL.step (y_load1 hT rfl rfl rfl (by (exact Rd1.row (by (repeat (first | exact Pick.head | apply Pick.tail | apply Pick.app))) (by rfl)))) rfl rfl rfl ?_
 refine JL.loud rfl (l_callF e54 rfl rfl (onionSize_spec E hops _) ?_)
 rintro _ _ ⟨sz, rfl, hz1, hz2, rfl⟩
 refine JL.step (y_assign rfl) rfl rfl rfl ?_
 refine JL.nil (JE.then_normal (J.seq (J.seq (J.region (JL.step (y_fieldAddr hT rfl rfl rfl rfl rfl rfl) rfl rfl rfl ?_)))))
 refine JL.step (y_load1 hT rfl rfl rfl (by (exact Rd1.row (by (repeat (first | exact Pick.head | apply Pick.tail | apply Pick.app))) (by rfl)))) rfl rfl rfl ?_
 refine JL.step (y_lss rfl rfl) rfl rfl rfl (JL.step (y_move rfl) rfl rfl rfl ?_)
 all_goals (first | (refine JL.gsplit_dec rfl rfl rfl (fun h => ?_) (fun h => ?_) <;> try (first | (exfalso; omega) | exact absurd rfl h)) | (refine JL.gsplit rfl rfl rfl (fun h => ?_) (fun h => ?_) <;> try (first | cases h | (exfalso; simp at h; done))) | skip)
 all_goals (first | refine JL.gskip rfl rfl rfl rfl rfl rfl ?_ | refine JL.gskipU rfl rfl rfl rfl rfl ?_ | refine JL.gstep rfl rfl rfl (y_move rfl) rfl rfl ?_)
 all_goals (first | refine JL.gskip rfl rfl rfl rfl rfl rfl ?_ | refine JL.gskipU rfl rfl rfl rfl rfl ?_ | refine JL.gstep rfl rfl rfl (y_eql rfl rfl) rfl rfl ?_)
 all_goals (refine JL.step (y_pick rfl rfl rfl) rfl rfl rfl ?_)
 all_goals refine JL.nil (JE.then_normal ?_)
 all_goals
  first | apply J.cond_dec rfl | apply J.cond rfl
  case' ht =>
   intro h
   try (first | (exfalso; omega) | (cases h; done) | (exfalso; simp at h; done) | subst h)
   all_goals
    have hbad : ¬ stP clients hops ws := fun q => by
     have q1 := q.1
     have q2 := q.2.1
     have q3 := q.2.2.1
     have := hz2 q2 q3
     omega
    refine J.seq (J.region (JL.step (y_assign rfl) rfl rfl rfl ?_))
    refine JL.nil (JE.then_normal (J.ret (JE.then_ret ?_)))
    refine JE.ret1 (.inl rfl) rfl rfl (by (first | exact RV.tmp rfl | exact RV.cell1 hT rfl rfl rfl (by (exact Rd1.row (by (repeat (first | exact Pick.head | apply Pick.tail | apply Pick.app))) (by rfl))) | exact RV.cellN hT rfl rfl rfl (by (first | exact RdN.rowAll (by (repeat (first | exact Pick.head | apply Pick.tail | apply Pick.app))) | exact RdN.own (by (repeat (first | exact Pick.head | apply Pick.tail | apply Pick.app))))) (by (first | rfl | assumption | (simp; done) | omega)))) ?_
    first
    | have zz : ¬ stP clients hops ws := hbad
      exact ⟨l, fun w h => h.sup (by (repeat (first | exact Sup.refl | apply Sup.cons (by (repeat (first | exact Pick.head | apply Pick.tail | apply Pick.app))) | apply Sup.app | apply Sup.skip | apply Sup.skips))), false, rfl, ⟨fun q => (by cases q), fun q => absurd q zz⟩, rfl⟩
    | have zz : ¬ okB hops b := hnok
      exact ⟨l, fun w h => h.sup (by (repeat (first | exact Sup.refl | apply Sup.cons (by (repeat (first | exact Pick.head | apply Pick.tail | apply Pick.app))) | apply Sup.app | apply Sup.skip | apply Sup.skips))), false, rfl, ⟨fun q => (by cases q), fun q => absurd (q.2.2.2 w hwm hgo.1 hgo.2 b (by rw [hB]; exact List.mem_of_getElem? hbb)) zz⟩, rfl⟩
    | refine ⟨l, fun w h => h.sup (by (repeat (first | exact Sup.refl | apply Sup.cons (by (repeat (first | exact Pick.head | apply Pick.tail | apply Pick.app))) | apply Sup.app | apply Sup.skip | apply Sup.skips))), true, rfl, ⟨fun _ => ⟨hcl, hh1.1, hh1.2, fun w hw' q1 q2 => ?_⟩, fun _ => rfl⟩, rfl⟩
      obtain ⟨k, hk⟩ := List.getElem?_of_mem hw'
      have := (List.getElem?_eq_some_iff.1 hk).1
      exact hF1 _ (hF2 k w (by omega) hk q1 q2)
  case' hf =>
   intro h
   try (first | (exfalso; omega) | (cases h; done) | (exfalso; simp at h; done) | subst h)
   all_goals
    have hcl : 1 ≤ clients := by omega
    have hh1 : 1 ≤ hops ∧ hops ≤ 3 := by
     by_cases q : hops < 1 ∨ 3 < hops
     · have := hz1 q; omega
     · omega
    have hz3 := hz2 hh1.1 hh1.2
    refine J.skip ?_
 all_goals refine JE.then_normal ?_
 all_goals
  refine J.seq (J.region ?_)
  refine JL.loud rfl (l_makeMap rfl (fun b2 => ?_))
  refine JL.step (y_assign rfl) rfl rfl rfl ?_
  refine JL.nil (JE.then_normal (J.seq (J.seq (J.region (JL.step (y_move rfl) rfl rfl rfl (JL.step (y_len_slice hT rfl rfl rfl) rfl rfl rfl (JL.step (y_move rfl) rfl rfl rfl ?_)))))))
  refine JL.nil (JE.then_normal (J.block ?_))
  refine J.pre (l' := mapA (Value.int .i64) (fun _ => True) b2 (metI []) :: row bP 61 (plaE clients hops noise sv rv) :: l) (fun w s => s.map_new (enc := Value.int .i64) (ok := fun _ => True)) ?_
  refine J.loop (α := Nat × List Int) (fun s => s.1 ≤ n ∧ (∀ f ∈ s.2, ∀ b ∈ refB f ws, okB hops b) ∧ ∀ (j : Nat) (w : WireT), j < s.1 → ws[j]? = some w → 0 ≤ w.2.1 → w.2.1 < clients → w.2.1 ∈ s.2) (fun s => [(1, .slice p n c), (2, .pointer (some ⟨bP, 0, none⟩)), (5, .int .i64 sz), (6, .map (some b2)), (22, .slice p n c), (23, .int .i64 n), (24, .int .i64 s.1)]) (fun s => mapA (Value.int .i64) (fun _ => True) b2 (metI s.2) :: row bP 61 (plaE clients hops noise sv rv) :: l) (fun s => n - s.1) (0, []) ⟨Nat.zero_le _, by simp, by intro j w h; exact absurd h (Nat.not_lt_zero _)⟩ ⟨rfl, rfl, rfl, rfl, rfl, rfl, rfl, trivial⟩ (fun w h => h) ?_
  rintro ⟨i, F⟩ ⟨hi, hF1, hF2⟩
  dsimp only at hi hF1 hF2 ⊢
  refine J.seq (J.region (JL.step (y_lss rfl rfl) rfl rfl rfl ?_))
  refine JL.nil (JE.then_normal (J.seq ?_))
  first | apply J.cond_dec rfl | apply J.cond rfl
  case' ht =>
   intro h
   try (first | (exfalso; omega) | (cases h; done) | (exfalso; simp at h; done) | subst h)
   all_goals
    refine J.skip ?_
  case' hf =>
   intro h
   try (first | (exfalso; omega) | (cases h; done) | (exfalso; simp at h; done) | subst h)
   all_goals
    refine J.exit (JE.then_exit (JE.then_exit (JE.block_exit (JE.then_normal (J.seq (J.region (JL.step (y_assign rfl) rfl rfl rfl ?_)))))))
    refine JL.nil (JE.then_normal (J.ret ?_))
    refine JE.ret1 (.inl rfl) rfl rfl (by (first | exact RV.tmp rfl | exact RV.cell1 hT rfl rfl rfl (by (exact Rd1.row (by (repeat (first | exact Pick.head | apply Pick.tail | apply Pick.app))) (by rfl))) | exact RV.cellN hT rfl rfl rfl (by (first | exact RdN.rowAll (by (repeat (first | exact Pick.head | apply Pick.tail | apply Pick.app))) | exact RdN.own (by (repeat (first | exact Pick.head | apply Pick.tail | apply Pick.app))))) (by (first | rfl | assumption | (simp; done) | omega)))) ?_
    first
    | have zz : ¬ stP clients hops ws := hbad
      exact ⟨l, fun w h => h.sup (by (repeat (first | exact Sup.refl | apply Sup.cons (by (repeat (first | exact Pick.head | apply Pick.tail | apply Pick.app))) | apply Sup.app | apply Sup.skip | apply Sup.skips))), false, rfl, ⟨fun q => (by cases q), fun q => absurd q zz⟩, rfl⟩
    | have zz : ¬ okB hops b := hnok
      exact ⟨l, fun w h => h.sup (by (repeat (first | exact Sup.refl | apply Sup.cons (by (repeat (first | exact Pick.head | apply Pick.tail | apply Pick.app))) | apply Sup.app | apply Sup.skip | apply Sup.skips))), false, rfl, ⟨fun q => (by cases q), fun q => absurd (q.2.2.2 w hwm hgo.1 hgo.2 b (by rw [hB]; exact List.mem_of_getElem? hbb)) zz⟩, rfl⟩
    | refine ⟨l, fun w h => h.sup (by (repeat (first | exact Sup.refl | apply Sup.cons (by (repeat (first | exact Pick.head | apply Pick.tail | apply Pick.app))) | apply Sup.app | apply Sup.skip | apply Sup.skips))), true, rfl, ⟨fun _ => ⟨hcl, hh1.1, hh1.2, fun w hw' q1 q2 => ?_⟩, fun _ => rfl⟩, rfl⟩
      obtain ⟨k, hk⟩ := List.getElem?_of_mem hw'
      have := (List.getElem?_eq_some_iff.1 hk).1
      exact hF1 _ (hF2 k w (by omega) hk q1 q2)
  all_goals refine JE.then_normal ?_
  all_goals
   refine J.seq (J.block (J.seq ?_))
   have hlt : i < n := by omega
   obtain ⟨w, hh⟩ : ∃ w, ws[i]? = some w := ⟨ws[i]'(by omega), List.getElem?_eq_getElem _⟩
   have hwm := List.mem_of_getElem? hh
   have hwk := hw w hwm
   obtain ⟨g, o, rfl, hr⟩ := hin.addr (by omega)
   refine J.region ?_
   refine JL.step (y_indexAddr_slice hT rfl rfl rfl rfl rfl (by (first | omega | exact Nat.le_of_ble_eq_true rfl | decide | (simp; omega))) (by (first | omega | exact Nat.le_of_ble_eq_true rfl | decide | (simp; omega)))) rfl rfl rfl ?_
   refine JL.step (y_loadN hT rfl rfl rfl (RdN.elem (((hr []).cons _).cons _) (fun x _ => wiE_length x) hh) rfl) rfl rfl rfl ?_
   refine JL.loud rfl (l_alloc hT rfl rfl (by (first | rfl | simp)) rfl (fun b3 => ?_))
   refine JL.loud rfl (l_storeAll hT rfl rfl rfl (by (first | rfl | assumption | (simp; done) | omega)) (by (first | assumption | exact ones_of rfl | exact encW_one _ | exact encB_one _ | (intro u hu; simp at hu; rcases hu with rfl | rfl <;> rfl) | (intro u hu; simp at hu; subst hu; rfl) | simp)) (by (repeat (first | exact Pick.head | apply Pick.tail | apply Pick.app))) (by (first | rfl | assumption | (simp; done) | omega)) ?_)
   refine JL.nil (JE.then_normal (J.seq (J.seq (J.region (JL.step (y_fieldAddr hT rfl rfl rfl rfl rfl rfl) rfl rfl rfl ?_)))))
   refine JL.step (y_load1 hT rfl rfl rfl (by (exact Rd1.row (by (repeat (first | exact Pick.head | apply Pick.tail | apply Pick.app))) (by rfl)))) rfl rfl rfl ?_
   refine JL.step (y_lss rfl rfl) rfl rfl rfl (JL.step (y_move rfl) rfl rfl rfl ?_)
   all_goals (first | (refine JL.gsplit_dec rfl rfl rfl (fun h => ?_) (fun h => ?_) <;> try (first | (exfalso; omega) | exact absurd rfl h)) | (refine JL.gsplit rfl rfl rfl (fun h => ?_) (fun h => ?_) <;> try (first | cases h | (exfalso; simp at h; done))) | skip)
   all_goals (first | refine JL.gskip rfl rfl rfl rfl rfl rfl ?_ | refine JL.gskipU rfl rfl rfl rfl rfl ?_ | refine JL.gstep rfl rfl rfl (y_fieldAddr hT rfl rfl rfl rfl rfl rfl) rfl rfl ?_)
   all_goals (first | refine JL.gskip rfl rfl rfl rfl rfl rfl ?_ | refine JL.gskipU rfl rfl rfl rfl rfl ?_ | refine JL.gstep rfl rfl rfl (y_load1 hT rfl rfl rfl (by (exact Rd1.row (by (repeat (first | exact Pick.head | apply Pick.tail | apply Pick.app))) (by rfl)))) rfl rfl ?_)
   all_goals (first | refine JL.gskip rfl rfl rfl rfl rfl rfl ?_ | refine JL.gskipU rfl rfl rfl rfl rfl ?_ | refine JL.gstep rfl rfl rfl (y_fieldAddr hT rfl rfl rfl rfl rfl rfl) rfl rfl ?_)
   all_goals (first | refine JL.gskip rfl rfl rfl rfl rfl rfl ?_ | refine JL.gskipU rfl rfl rfl rfl rfl ?_ | refine JL.gstep rfl rfl rfl (y_load1 hT rfl rfl rfl (by (exact Rd1.row (by (repeat (first | exact Pick.head | apply Pick.tail | apply Pick.app))) (by rfl)))) rfl rfl ?_)
   all_goals (first | refine JL.gskip rfl rfl rfl rfl rfl rfl ?_ | refine JL.gskipU rfl rfl rfl rfl rfl ?_ | refine JL.gstep rfl rfl rfl (y_geq rfl rfl) rfl rfl ?_)
   all_goals (refine JL.step (y_pick rfl rfl rfl) rfl rfl rfl ?_)
   all_goals (refine JL.step (y_move rfl) rfl rfl rfl ?_)
   all_goals (first | (refine JL.gsplit_dec rfl rfl rfl (fun h => ?_) (fun h => ?_) <;> try (first | (exfalso; omega) | exact absurd rfl h)) | (refine JL.gsplit rfl rfl rfl (fun h => ?_) (fun h => ?_) <;> try (first | cases h | (exfalso; simp at h; done))) | skip)
   all_goals (first | refine JL.gskip rfl rfl rfl rfl rfl rfl ?_ | refine JL.gskipU rfl rfl rfl rfl rfl ?_ | refine JL.gstep rfl rfl rfl (y_move rfl) rfl rfl ?_)
   all_goals (first | refine JL.gskip rfl rfl rfl rfl rfl rfl ?_ | refine JL.gskipU rfl rfl rfl rfl rfl ?_ | refine JL.gstep rfl rfl rfl (y_fieldAddr hT rfl rfl rfl rfl rfl rfl) rfl rfl ?_)
   all_goals (first | refine JL.gskip rfl rfl rfl rfl rfl rfl ?_ | refine JL.gskipU rfl rfl rfl rfl rfl ?_ | refine JL.gstep rfl rfl rfl (y_load1 hT rfl rfl rfl (by (exact Rd1.row (by (repeat (first | exact Pick.head | apply Pick.tail | apply Pick.app))) (by rfl)))) rfl rfl ?_)
   all_goals (first | refine JL.gskip rfl rfl rfl rfl rfl rfl ?_ | refine JL.gskipU rfl rfl rfl rfl rfl ?_ | refine JL.gstep rfl rfl rfl (v := .bool (decide (w.2.1 ∈ F))) (Y.val (y_lookup (a := w.2.1) hT rfl rfl rfl rfl (keyInt hT rfl rfl) rfl rfl rfl trivial (by (repeat (first | exact Pick.head | apply Pick.tail | apply Pick.app)))) (metI_look F _)) rfl rfl ?_)
   all_goals (refine JL.step (y_pick rfl rfl rfl) rfl rfl rfl ?_)
   all_goals refine JL.nil (JE.then_normal ?_)
   all_goals
    first | apply J.cond_dec rfl | apply J.cond rfl
    case' ht =>
     intro h
     try (first | (exfalso; omega) | (cases h; done) | (exfalso; simp at h; done) | subst h)
     all_goals
      have hskip : 0 ≤ w.2.1 → w.2.1 < clients → w.2.1 ∈ F := fun q1 q2 => by first | (exfalso; omega) | assumption
      refine J.exit (JE.then_exit (JE.block_exit (JE.then_normal (J.region ?_))))
      refine JL.step (y_add rfl rfl (by (first | exact wrap_i64 (by omega) (by omega) | rfl))) rfl rfl rfl ?_
      refine JL.step (y_move rfl) rfl rfl rfl ?_
      refine JL.nil ?_
      first
      | have zz : 0 ≤ w.2.1 → w.2.1 < clients → w.2.1 ∈ F := hskip
        exact JE.round (s := (i, F)) (i + 1, F) ⟨by dsimp only; omega, hF1, fun j w' hj hw' => by
         rcases Nat.lt_or_ge j i with q | q
         · exact hF2 j w' q hw'
         · obtain rfl : j = i := by dsimp only at hj; omega
           rw [hh] at hw'
           cases hw'
           exact zz⟩ ⟨rfl, rfl, rfl, rfl, rfl, rfl, rfl, trivial⟩ (fun w h => h.sup (by (repeat (first | exact Sup.refl | apply Sup.cons (by (repeat (first | exact Pick.head | apply Pick.tail | apply Pick.app))) | apply Sup.app | apply Sup.skip | apply Sup.skips)))) (by dsimp only; omega)
      | have hall : ∀ b ∈ refB w.2.1 ws, okB hops b := fun b hb => by
         rw [hB] at hb
         obtain ⟨k, hk⟩ := List.getElem?_of_mem hb
         have := (List.getElem?_eq_some_iff.1 hk).1
         exact hjok k b (by omega) hk
        exact JE.round (s := (i, F)) (i + 1, F ++ [w.2.1]) ⟨by dsimp only; omega, fun f hf => by
         rcases List.mem_append.1 hf with q | q
         · exact hF1 f q
         · obtain rfl := List.mem_singleton.1 q
           exact hall, fun j w' hj hw' => by
         rcases Nat.lt_or_ge j i with q | q
         · exact fun a b => List.mem_append_left _ (hF2 j w' q hw' a b)
         · obtain rfl : j = i := by dsimp only at hj; omega
           rw [hh] at hw'
           cases hw'
           exact fun _ _ => by simp⟩ ⟨rfl, rfl, rfl, rfl, rfl, rfl, rfl, trivial⟩ (fun w h => h.sup (by (repeat (first | exact Sup.refl | apply Sup.cons (by (repeat (first | exact Pick.head | apply Pick.tail | apply Pick.app))) | apply Sup.app | apply Sup.skip | apply Sup.skips)))) (by dsimp only; omega)
    case' hf =>
     intro h
     try (first | (exfalso; omega) | (cases h; done) | (exfalso; simp at h; done) | subst h)
     all_goals
      have hgo : 0 ≤ w.2.1 ∧ w.2.1 < clients := by omega
      have hnew : w.2.1 ∉ F := by assumption
      refine J.skip ?_
   all_goals refine JE.then_normal ?_
   all_goals
    refine J.seq (J.region (JL.step (y_move rfl) rfl rfl rfl (JL.step (y_fieldAddr hT rfl rfl rfl rfl rfl rfl) rfl rfl rfl ?_)))
    refine JL.step (y_load1 hT rfl rfl rfl (by (exact Rd1.row (by (repeat (first | exact Pick.head | apply Pick.tail | apply Pick.app))) (by rfl)))) rfl rfl rfl ?_
    refine JL.loud rfl (l_mapUpdate (a := w.2.1) hT rfl rfl (keyInt hT rfl rfl) rfl rfl rfl rfl trivial (by (repeat (first | exact Pick.head | apply Pick.tail | apply Pick.app))) ?_)
    refine JL.nil (JE.then_normal (J.seq (J.region (JL.step (y_move rfl) rfl rfl rfl (JL.step (y_fieldAddr hT rfl rfl rfl rfl rfl rfl) rfl rfl rfl ?_)))))
    refine JL.step (y_load1 hT rfl rfl rfl (by (exact Rd1.row (by (repeat (first | exact Pick.head | apply Pick.tail | apply Pick.app))) (by rfl)))) rfl rfl rfl ?_
    refine JL.loud rfl (l_callF e28 rfl rfl (bursts_spec E (some ⟨g, o, none⟩) n c ws w.2.1 _ hn hn8 hw (by (repeat (first | assumption | apply InL.cons | apply InL.app)))) ?_)
    rintro _ _ ⟨a9, c9, rfl, rfl⟩
    refine JL.step (y_len_slice hT rfl rfl rfl) rfl rfl rfl (JL.step (y_move rfl) rfl rfl rfl ?_)
    refine JL.nil (JE.then_normal (J.block ?_))
    have hBl := refB_length w.2.1 ws
    obtain ⟨B, hB⟩ : ∃ B, refB w.2.1 ws = B := ⟨_, rfl⟩
    rw [hB] at hBl ⊢
    rw [metI_put, if_neg hnew]
    refine J.fact (fun w s => Sat.own_at (s.pick Pick.head)) fun o9 => ?_
    refine J.loop (α := Nat) (fun j => j ≤ B.length ∧ ∀ (k : Nat) (b : BurT), k < j → B[k]? = some b → okB hops b) (fun j => [(1, .slice (some ⟨g, o, none⟩) n c), (2, .pointer (some ⟨bP, 0, none⟩)), (5, .int .i64 sz), (6, .map (some b2)), (22, .slice (some ⟨g, o, none⟩) n c), (23, .int .i64 n), (24, .int .i64 i), (50, .slice a9 B.length c9), (51, .int .i64 B.length), (52, .int .i64 j)]) (fun _ => own 65 3 (.slice a9 B.length c9) B.length (B.flatMap buE) :: mapA (Value.int .i64) (fun _ => True) b2 (metI (F ++ [w.2.1])) :: row bP 61 (plaE clients hops noise sv rv) :: l) (fun j => B.length - j) 0 ⟨Nat.zero_le _, by intro k b h; exact absurd h (Nat.not_lt_zero _)⟩ ⟨rfl, rfl, rfl, rfl, rfl, rfl, rfl, rfl, rfl, rfl, trivial⟩ (fun w h => h.sup (by (repeat (first | exact Sup.refl | apply Sup.cons (by (repeat (first | exact Pick.head | apply Pick.tail | apply Pick.app))) | apply Sup.app | apply Sup.skip | apply Sup.skips)))) ?_
    rintro j ⟨hj, hjok⟩
    try dsimp only
    refine J.seq (J.region (JL.step (y_lss rfl rfl) rfl rfl rfl ?_))
    refine JL.nil (JE.then_normal (J.seq ?_))
    first | apply J.cond_dec rfl | apply J.cond rfl
    case' ht =>
     intro h
     try (first | (exfalso; omega) | (cases h; done) | (exfalso; simp at h; done) | subst h)
     all_goals
      refine J.skip ?_
    case' hf =>
     intro h
     try (first | (exfalso; omega) | (cases h; done) | (exfalso; simp at h; done) | subst h)
     all_goals
      refine J.exit (JE.then_exit (JE.then_exit (JE.block_exit (JE.block_normal (JE.then_normal (J.region ?_))))))
      refine JL.step (y_add rfl rfl (by (first | exact wrap_i64 (by omega) (by omega) | rfl))) rfl rfl rfl ?_
      refine JL.step (y_move rfl) rfl rfl rfl ?_
      refine JL.nil ?_
      first
      | have zz : 0 ≤ w.2.1 → w.2.1 < clients → w.2.1 ∈ F := hskip
        exact JE.round (s := (i, F)) (i + 1, F) ⟨by dsimp only; omega, hF1, fun j w' hj hw' => by
         rcases Nat.lt_or_ge j i with q | q
         · exact hF2 j w' q hw'
         · obtain rfl : j = i := by dsimp only at hj; omega
           rw [hh] at hw'
           cases hw'
           exact zz⟩ ⟨rfl, rfl, rfl, rfl, rfl, rfl, rfl, trivial⟩ (fun w h => h.sup (by (repeat (first | exact Sup.refl | apply Sup.cons (by (repeat (first | exact Pick.head | apply Pick.tail | apply Pick.app))) | apply Sup.app | apply Sup.skip | apply Sup.skips)))) (by dsimp only; omega)
      | have hall : ∀ b ∈ refB w.2.1 ws, okB hops b := fun b hb => by
         rw [hB] at hb
         obtain ⟨k, hk⟩ := List.getElem?_of_mem hb
         have := (List.getElem?_eq_some_iff.1 hk).1
         exact hjok k b (by omega) hk
        exact JE.round (s := (i, F)) (i + 1, F ++ [w.2.1]) ⟨by dsimp only; omega, fun f hf => by
         rcases List.mem_append.1 hf with q | q
         · exact hF1 f q
         · obtain rfl := List.mem_singleton.1 q
           exact hall, fun j w' hj hw' => by
         rcases Nat.lt_or_ge j i with q | q
         · exact fun a b => List.mem_append_left _ (hF2 j w' q hw' a b)
         · obtain rfl : j = i := by dsimp only at hj; omega
           rw [hh] at hw'
           cases hw'
           exact fun _ _ => by simp⟩ ⟨rfl, rfl, rfl, rfl, rfl, rfl, rfl, trivial⟩ (fun w h => h.sup (by (repeat (first | exact Sup.refl | apply Sup.cons (by (repeat (first | exact Pick.head | apply Pick.tail | apply Pick.app))) | apply Sup.app | apply Sup.skip | apply Sup.skips)))) (by dsimp only; omega)
    all_goals refine JE.then_normal ?_
    all_goals
     refine J.seq (J.block (J.seq ?_))
     have hltj : j < B.length := by omega
     obtain ⟨b, hbb⟩ : ∃ b, B[j]? = some b := ⟨B[j], List.getElem?_eq_getElem _⟩
     obtain ⟨g9, o9', rfl, hr9⟩ := (o9.inl (l := own 65 3 (.slice a9 B.length c9) B.length (B.flatMap buE) :: mapA (Value.int .i64) (fun _ => True) b2 (metI (F ++ [w.2.1])) :: row bP 61 (plaE clients hops noise sv rv) :: l) Pick.head).addr (by omega)
     refine J.region ?_
     refine JL.step (y_indexAddr_slice hT rfl rfl rfl rfl rfl (by (first | omega | exact Nat.le_of_ble_eq_true rfl | decide | (simp; omega))) (by (first | omega | exact Nat.le_of_ble_eq_true rfl | decide | (simp; omega)))) rfl rfl rfl ?_
     refine JL.step (y_loadN hT rfl rfl rfl (RdN.elem (hr9 []) (fun x _ => buE_length x) hbb) rfl) rfl rfl rfl ?_
     refine JL.loud rfl (l_alloc hT rfl rfl (by (first | rfl | simp)) rfl (fun b6 => ?_))
     refine JL.loud rfl (l_storeAll hT rfl rfl rfl (by (first | rfl | assumption | (simp; done) | omega)) (by (first | assumption | exact ones_of rfl | exact encW_one _ | exact encB_one _ | (intro u hu; simp at hu; rcases hu with rfl | rfl <;> rfl) | (intro u hu; simp at hu; subst hu; rfl) | simp)) (by (repeat (first | exact Pick.head | apply Pick.tail | apply Pick.app))) (by (first | rfl | assumption | (simp; done) | omega)) ?_)
     refine JL.nil (JE.then_normal (J.seq (J.region (JL.step (y_fieldAddr hT rfl rfl rfl rfl rfl rfl) rfl rfl rfl ?_))))
     refine JL.step (y_load1 hT rfl rfl rfl (by (exact Rd1.row (by (repeat (first | exact Pick.head | apply Pick.tail | apply Pick.app))) (by rfl)))) rfl rfl rfl ?_
     refine JL.step (y_lss rfl rfl) rfl rfl rfl (JL.step (y_move rfl) rfl rfl rfl ?_)
     all_goals (first | (refine JL.gsplit_dec rfl rfl rfl (fun h => ?_) (fun h => ?_) <;> try (first | (exfalso; omega) | exact absurd rfl h)) | (refine JL.gsplit rfl rfl rfl (fun h => ?_) (fun h => ?_) <;> try (first | cases h | (exfalso; simp at h; done))) | skip)
     all_goals (first | refine JL.gskip rfl rfl rfl rfl rfl rfl ?_ | refine JL.gskipU rfl rfl rfl rfl rfl ?_ | refine JL.gstep rfl rfl rfl (y_fieldAddr hT rfl rfl rfl rfl rfl rfl) rfl rfl ?_)
     all_goals (first | refine JL.gskip rfl rfl rfl rfl rfl rfl ?_ | refine JL.gskipU rfl rfl rfl rfl rfl ?_ | refine JL.gstep rfl rfl rfl (y_load1 hT rfl rfl rfl (by (exact Rd1.row (by (repeat (first | exact Pick.head | apply Pick.tail | apply Pick.app))) (by rfl)))) rfl rfl ?_)
     all_goals (first | refine JL.gskip rfl rfl rfl rfl rfl rfl ?_ | refine JL.gskipU rfl rfl rfl rfl rfl ?_ | refine JL.gstep rfl rfl rfl (y_rem rfl rfl (by (first | omega | exact Nat.le_of_ble_eq_true rfl | decide | (simp; omega))) (by rfl)) rfl rfl ?_)
     all_goals (first | refine JL.gskip rfl rfl rfl rfl rfl rfl ?_ | refine JL.gskipU rfl rfl rfl rfl rfl ?_ | refine JL.gstep rfl rfl rfl (y_neq rfl rfl) rfl rfl ?_)
     all_goals (refine JL.step (y_pick rfl rfl rfl) rfl rfl rfl ?_)
     all_goals (refine JL.step (y_move rfl) rfl rfl rfl ?_)
     all_goals (first | (refine JL.gsplit_dec rfl rfl rfl (fun h => ?_) (fun h => ?_) <;> try (first | (exfalso; omega) | exact absurd rfl h)) | (refine JL.gsplit rfl rfl rfl (fun h => ?_) (fun h => ?_) <;> try (first | cases h | (exfalso; simp at h; done))) | skip)
     all_goals (first | refine JL.gskip rfl rfl rfl rfl rfl rfl ?_ | refine JL.gskipU rfl rfl rfl rfl rfl ?_ | refine JL.gstep rfl rfl rfl (y_fieldAddr hT rfl rfl rfl rfl rfl rfl) rfl rfl ?_)
     all_goals (first | refine JL.gskip rfl rfl rfl rfl rfl rfl ?_ | refine JL.gskipU rfl rfl rfl rfl rfl ?_ | refine JL.gstep rfl rfl rfl (y_load1 hT rfl rfl rfl (by (exact Rd1.row (by (repeat (first | exact Pick.head | apply Pick.tail | apply Pick.app))) (by rfl)))) rfl rfl ?_)
     all_goals (first | refine JL.gskip rfl rfl rfl rfl rfl rfl ?_ | refine JL.gskipU rfl rfl rfl rfl rfl ?_ | refine JL.gstep rfl rfl rfl (y_move rfl) rfl rfl ?_)
     all_goals (first | refine JL.gskip rfl rfl rfl rfl rfl rfl ?_ | refine JL.gskipU rfl rfl rfl rfl rfl ?_ | refine JL.gstep rfl rfl rfl (y_add rfl rfl (by (first | exact wrap_i64 (by omega) (by omega) | rfl))) rfl rfl ?_)
     all_goals (first | refine JL.gskip rfl rfl rfl rfl rfl rfl ?_ | refine JL.gskipU rfl rfl rfl rfl rfl ?_ | refine JL.gstep rfl rfl rfl (y_neq rfl rfl) rfl rfl ?_)
     all_goals (refine JL.step (y_pick rfl rfl rfl) rfl rfl rfl ?_)
     all_goals refine JL.nil (JE.then_normal ?_)
     all_goals
      first | apply J.cond_dec rfl | apply J.cond rfl
      case' ht =>
       intro h
       try (first | (exfalso; omega) | (cases h; done) | (exfalso; simp at h; done) | subst h)
       all_goals
        have hnok : ¬ okB hops b := fun q => by
         rw [okB_iff] at q
         obtain ⟨q1, q2, q3⟩ := q
         first | omega | exact absurd q2 (by assumption) | (rw [hz3] at *; omega)
        refine J.seq (J.region (JL.step (y_assign rfl) rfl rfl rfl ?_))
        refine JL.nil (JE.then_normal (J.ret (JE.block_ret (JE.then_ret (JE.then_ret (JE.block_ret (JE.block_ret (JE.then_ret (JE.then_ret (JE.block_ret (JE.then_ret ?_)))))))))))
        refine JE.ret1 (.inl rfl) rfl rfl (by (first | exact RV.tmp rfl | exact RV.cell1 hT rfl rfl rfl (by (exact Rd1.row (by (repeat (first | exact Pick.head | apply Pick.tail | apply Pick.app))) (by rfl))) | exact RV.cellN hT rfl rfl rfl (by (first | exact RdN.rowAll (by (repeat (first | exact Pick.head | apply Pick.tail | apply Pick.app))) | exact RdN.own (by (repeat (first | exact Pick.head | apply Pick.tail | apply Pick.app))))) (by (first | rfl | assumption | (simp; done) | omega)))) ?_
        first
        | have zz : ¬ stP clients hops ws := hbad
          exact ⟨l, fun w h => h.sup (by (repeat (first | exact Sup.refl | apply Sup.cons (by (repeat (first | exact Pick.head | apply Pick.tail | apply Pick.app))) | apply Sup.app | apply Sup.skip | apply Sup.skips))), false, rfl, ⟨fun q => (by cases q), fun q => absurd q zz⟩, rfl⟩
        | have zz : ¬ okB hops b := hnok
          exact ⟨l, fun w h => h.sup (by (repeat (first | exact Sup.refl | apply Sup.cons (by (repeat (first | exact Pick.head | apply Pick.tail | apply Pick.app))) | apply Sup.app | apply Sup.skip | apply Sup.skips))), false, rfl, ⟨fun q => (by cases q), fun q => absurd (q.2.2.2 w hwm hgo.1 hgo.2 b (by rw [hB]; exact List.mem_of_getElem? hbb)) zz⟩, rfl⟩
        | refine ⟨l, fun w h => h.sup (by (repeat (first | exact Sup.refl | apply Sup.cons (by (repeat (first | exact Pick.head | apply Pick.tail | apply Pick.app))) | apply Sup.app | apply Sup.skip | apply Sup.skips))), true, rfl, ⟨fun _ => ⟨hcl, hh1.1, hh1.2, fun w hw' q1 q2 => ?_⟩, fun _ => rfl⟩, rfl⟩
          obtain ⟨k, hk⟩ := List.getElem?_of_mem hw'
          have := (List.getElem?_eq_some_iff.1 hk).1
          exact hF1 _ (hF2 k w (by omega) hk q1 q2)
      case' hf =>
       intro h
       try (first | (exfalso; omega) | (cases h; done) | (exfalso; simp at h; done) | subst h)
       all_goals
        have hokb : okB hops b := by
         rw [okB_iff]
         refine ⟨by omega, ?_, by omega⟩
         first | assumption | exact Decidable.of_not_not (by assumption)
        refine J.skip ?_
     all_goals refine JE.block_normal (JE.then_normal ?_)
     all_goals
      refine J.region ?_
      refine JL.step (y_add rfl rfl (by (first | exact wrap_i64 (by omega) (by omega) | rfl))) rfl rfl rfl ?_
      refine JL.step (y_move rfl) rfl rfl rfl ?_
      refine JL.nil ?_
    all_goals
     exact JE.round (s := j) (j + 1) ⟨by omega, fun k b' hk hb' => by
      rcases Nat.lt_or_ge k j with q | q
      · exact hjok k b' q hb'
      · obtain rfl : k = j := by omega
        rw [hbb] at hb'
        cases hb'
        exact hokb⟩ ⟨rfl, rfl, rfl, rfl, rfl, rfl, rfl, rfl, rfl, rfl, trivial⟩ (fun w h => h.sup (by (repeat (first | exact Sup.refl | apply Sup.cons (by (repeat (first | exact Pick.head | apply Pick.tail | apply Pick.app))) | apply Sup.app | apply Sup.skip | apply Sup.skips)))) (by omega)
theorem rsteady_spec (clients hops noise : Int) (sv rv : Value) (p : Option Addr) (n c : Nat) (ws : List WireT) (l : List HProp) (hn : ws.length = n) (hn8 : n ≤ 1000) (hw : ∀ w ∈ ws, WiOk w) (hin : InL l p n c (ws.flatMap wiE)) :
 Fc prog E 31 [.agg (plaE clients hops noise sv rv).toArray, .slice p n c].toArray l (fun v l' => ∃ z, v = .bool z ∧ (z = true ↔ stP clients hops ws) ∧ l' = l) := by
 refine Fc.post ?_
 refine Fc.of_body (c := ?codeC) Tryd.func31 ?hb Tryd.ntmps31 ?hl ?_
 case hb => exact rfl
 case hl => exact rfl
 refine J.seq (J.region ?_)
 refine JL.loud rfl (l_box (cs := plaE clients hops noise sv rv) rfl rfl rfl (fun bP => ?_))
 refine JL.step (y_assign rfl) rfl rfl rfl ?_
 refine JL.nil (JE.then_normal (J.seq (J.seq (J.region (JL.step (y_fieldAddr hT rfl rfl rfl rfl rfl rfl) rfl rfl rfl ?_)))))
 refine JL.step (y_load1 hT rfl rfl rfl (by (exact Rd1.row (by (repeat (first | exact Pick.head | apply Pick.tail | apply Pick.app))) (by rfl)))) rfl rfl rfl ?_
 refine JL.step (y_lss rfl rfl) rfl rfl rfl (JL.step (y_move rfl) rfl rfl rfl ?_)
 all_goals (first | (refine JL.gsplit_dec rfl rfl rfl (fun h => ?_) (fun h => ?_) <;> try (first | (exfalso; omega) | exact absurd rfl h)) | (refine JL.gsplit rfl rfl rfl (fun h => ?_) (fun h => ?_) <;> try (first | cases h | (exfalso; simp at h; done))) | skip)
 all_goals (first | refine JL.gskip rfl rfl rfl rfl rfl rfl ?_ | refine JL.gskipU rfl rfl rfl rfl rfl ?_ | refine JL.gstep rfl rfl rfl (y_fieldAddr hT rfl rfl rfl rfl rfl rfl) rfl rfl ?_)
 all_goals (first | refine JL.gskip rfl rfl rfl rfl rfl rfl ?_ | refine JL.gskipU rfl rfl rfl rfl rfl ?_ | refine JL.gstep rfl rfl rfl (y_load1 hT rfl rfl rfl (by (exact Rd1.row (by (repeat (first | exact Pick.head | apply Pick.tail | apply Pick.app))) (by rfl)))) rfl rfl ?_)
 all_goals (first | refine JL.gskip rfl rfl rfl rfl rfl rfl ?_ | refine JL.gskipU rfl rfl rfl rfl rfl ?_ | refine JL.gstep rfl rfl rfl (y_lss rfl rfl) rfl rfl ?_)
 all_goals (refine JL.step (y_pick rfl rfl rfl) rfl rfl rfl ?_)
 all_goals (refine JL.step (y_move rfl) rfl rfl rfl ?_)
 all_goals (first | (refine JL.gsplit_dec rfl rfl rfl (fun h => ?_) (fun h => ?_) <;> try (first | (exfalso; omega) | exact absurd rfl h)) | (refine JL.gsplit rfl rfl rfl (fun h => ?_) (fun h => ?_) <;> try (first | cases h | (exfalso; simp at h; done))) | skip)
 all_goals (first | refine JL.gskip rfl rfl rfl rfl rfl rfl ?_ | refine JL.gskipU rfl rfl rfl rfl rfl ?_ | refine JL.gstep rfl rfl rfl (y_fieldAddr hT rfl rfl rfl rfl rfl rfl) rfl rfl ?_)
 all_goals (first | refine JL.gskip rfl rfl rfl rfl rfl rfl ?_ | refine JL.gskipU rfl rfl rfl rfl rfl ?_ | refine JL.gstep rfl rfl rfl (y_load1 hT rfl rfl rfl (by (exact Rd1.row (by (repeat (first | exact Pick.head | apply Pick.tail | apply Pick.app))) (by rfl)))) rfl rfl ?_)
 all_goals (first | refine JL.gskip rfl rfl rfl rfl rfl rfl ?_ | refine JL.gskipU rfl rfl rfl rfl rfl ?_ | refine JL.gstep rfl rfl rfl (y_gtr rfl rfl) rfl rfl ?_)
 all_goals (refine JL.step (y_pick rfl rfl rfl) rfl rfl rfl ?_)
 all_goals refine JL.nil (JE.then_normal ?_)
 all_goals
  first | apply J.cond_dec rfl | apply J.cond rfl
  case' ht =>
   intro h
   try (first | (exfalso; omega) | (cases h; done) | (exfalso; simp at h; done) | subst h)
   all_goals
    have hbad : ¬ stP clients hops ws := fun q => by
     have q1 := q.1
     have q2 := q.2.1
     have q3 := q.2.2.1
     omega
    refine J.seq (J.region (JL.step (y_assign rfl) rfl rfl rfl ?_))
    refine JL.nil (JE.then_normal (J.ret (JE.then_ret ?_)))
    refine JE.ret1 (.inl rfl) rfl rfl (by (first | exact RV.tmp rfl | exact RV.cell1 hT rfl rfl rfl (by (exact Rd1.row (by (repeat (first | exact Pick.head | apply Pick.tail | apply Pick.app))) (by rfl))) | exact RV.cellN hT rfl rfl rfl (by (first | exact RdN.rowAll (by (repeat (first | exact Pick.head | apply Pick.tail | apply Pick.app))) | exact RdN.own (by (repeat (first | exact Pick.head | apply Pick.tail | apply Pick.app))))) (by (first | rfl | assumption | (simp; done) | omega)))) ?_
    first
    | have zz : ¬ stP clients hops ws := hbad
      exact ⟨l, fun w h => h.sup (by (repeat (first | exact Sup.refl | apply Sup.cons (by (repeat (first | exact Pick.head | apply Pick.tail | apply Pick.app))) | apply Sup.app | apply Sup.skip | apply Sup.skips))), false, rfl, ⟨fun q => (by cases q), fun q => absurd q zz⟩, rfl⟩
    | have zz : ¬ okB hops b := hnok
      exact ⟨l, fun w h => h.sup (by (repeat (first | exact Sup.refl | apply Sup.cons (by (repeat (first | exact Pick.head | apply Pick.tail | apply Pick.app))) | apply Sup.app | apply Sup.skip | apply Sup.skips))), false, rfl, ⟨fun q => (by cases q), fun q => absurd (q.2.2.2 w hwm hgo.1 hgo.2 b (by rw [hB]; exact List.mem_of_getElem? hbb)) zz⟩, rfl⟩
    | refine ⟨l, fun w h => h.sup (by (repeat (first | exact Sup.refl | apply Sup.cons (by (repeat (first | exact Pick.head | apply Pick.tail | apply Pick.app))) | apply Sup.app | apply Sup.skip | apply Sup.skips))), true, rfl, ⟨fun _ => ⟨hcl, hh1.1, hh1.2, fun w hw' q1 q2 => ?_⟩, fun _ => rfl⟩, rfl⟩
      obtain ⟨k, hk⟩ := List.getElem?_of_mem hw'
      have := (List.getElem?_eq_some_iff.1 hk).1
      exact hF k w (by omega) hk q1 q2
  case' hf =>
   intro h
   try (first | (exfalso; omega) | (cases h; done) | (exfalso; simp at h; done) | subst h)
   all_goals
    have hcl : 1 ≤ clients := by omega
    have hh1 : 1 ≤ hops ∧ hops ≤ 3 := by omega
    refine J.skip ?_
 all_goals refine JE.then_normal ?_
 all_goals
  refine J.seq (J.seq (J.region (JL.step (y_move rfl) rfl rfl rfl (JL.step (y_len_slice hT rfl rfl rfl) rfl rfl rfl (JL.step (y_move rfl) rfl rfl rfl ?_)))))
  refine JL.nil (JE.then_normal (J.block ?_))
  refine J.loop (α := Nat) (fun i => i ≤ n ∧ ∀ (j : Nat) (w : WireT), j < i → ws[j]? = some w → 0 ≤ w.2.1 → w.2.1 < clients → ∀ b ∈ refB w.2.1 ws, okB hops b) (fun i => [(1, .slice p n c), (2, .pointer (some ⟨bP, 0, none⟩)), (22, .slice p n c), (23, .int .i64 n), (24, .int .i64 i)]) (fun _ => row bP 61 (plaE clients hops noise sv rv) :: l) (fun i => n - i) 0 ⟨Nat.zero_le _, by intro j w h; exact absurd h (Nat.not_lt_zero _)⟩ ⟨rfl, rfl, rfl, rfl, rfl, trivial⟩ (fun w h => h) ?_
  rintro i ⟨hi, hF⟩
  try dsimp only
  refine J.seq (J.region (JL.step (y_lss rfl rfl) rfl rfl rfl ?_))
  refine JL.nil (JE.then_normal (J.seq ?_))
  first | apply J.cond_dec rfl | apply J.cond rfl
  case' ht =>
   intro h
   try (first | (exfalso; omega) | (cases h; done) | (exfalso; simp at h; done) | subst h)
   all_goals
    refine J.skip ?_
  case' hf =>
   intro h
   try (first | (exfalso; omega) | (cases h; done) | (exfalso; simp at h; done) | subst h)
   all_goals
    refine J.exit (JE.then_exit (JE.then_exit (JE.block_exit (JE.then_normal (J.seq (J.region (JL.step (y_assign rfl) rfl rfl rfl ?_)))))))
    refine JL.nil (JE.then_normal (J.ret ?_))
    refine JE.ret1 (.inl rfl) rfl rfl (by (first | exact RV.tmp rfl | exact RV.cell1 hT rfl rfl rfl (by (exact Rd1.row (by (repeat (first | exact Pick.head | apply Pick.tail | apply Pick.app))) (by rfl))) | exact RV.cellN hT rfl rfl rfl (by (first | exact RdN.rowAll (by (repeat (first | exact Pick.head | apply Pick.tail | apply Pick.app))) | exact RdN.own (by (repeat (first | exact Pick.head | apply Pick.tail | apply Pick.app))))) (by (first | rfl | assumption | (simp; done) | omega)))) ?_
    first
    | have zz : ¬ stP clients hops ws := hbad
      exact ⟨l, fun w h => h.sup (by (repeat (first | exact Sup.refl | apply Sup.cons (by (repeat (first | exact Pick.head | apply Pick.tail | apply Pick.app))) | apply Sup.app | apply Sup.skip | apply Sup.skips))), false, rfl, ⟨fun q => (by cases q), fun q => absurd q zz⟩, rfl⟩
    | have zz : ¬ okB hops b := hnok
      exact ⟨l, fun w h => h.sup (by (repeat (first | exact Sup.refl | apply Sup.cons (by (repeat (first | exact Pick.head | apply Pick.tail | apply Pick.app))) | apply Sup.app | apply Sup.skip | apply Sup.skips))), false, rfl, ⟨fun q => (by cases q), fun q => absurd (q.2.2.2 w hwm hgo.1 hgo.2 b (by rw [hB]; exact List.mem_of_getElem? hbb)) zz⟩, rfl⟩
    | refine ⟨l, fun w h => h.sup (by (repeat (first | exact Sup.refl | apply Sup.cons (by (repeat (first | exact Pick.head | apply Pick.tail | apply Pick.app))) | apply Sup.app | apply Sup.skip | apply Sup.skips))), true, rfl, ⟨fun _ => ⟨hcl, hh1.1, hh1.2, fun w hw' q1 q2 => ?_⟩, fun _ => rfl⟩, rfl⟩
      obtain ⟨k, hk⟩ := List.getElem?_of_mem hw'
      have := (List.getElem?_eq_some_iff.1 hk).1
      exact hF k w (by omega) hk q1 q2
  all_goals refine JE.then_normal ?_
  all_goals
   refine J.seq (J.block (J.seq ?_))
   have hlt : i < n := by omega
   obtain ⟨w, hh⟩ : ∃ w, ws[i]? = some w := ⟨ws[i]'(by omega), List.getElem?_eq_getElem _⟩
   have hwm := List.mem_of_getElem? hh
   have hwk := hw w hwm
   obtain ⟨g, o, rfl, hr⟩ := hin.addr (by omega)
   refine J.region ?_
   refine JL.step (y_indexAddr_slice hT rfl rfl rfl rfl rfl (by (first | omega | exact Nat.le_of_ble_eq_true rfl | decide | (simp; omega))) (by (first | omega | exact Nat.le_of_ble_eq_true rfl | decide | (simp; omega)))) rfl rfl rfl ?_
   refine JL.step (y_loadN hT rfl rfl rfl (RdN.elem ((hr []).cons _) (fun x _ => wiE_length x) hh) rfl) rfl rfl rfl ?_
   refine JL.loud rfl (l_alloc hT rfl rfl (by (first | rfl | simp)) rfl (fun b1 => ?_))
   refine JL.loud rfl (l_storeAll hT rfl rfl rfl (by (first | rfl | assumption | (simp; done) | omega)) (by (first | assumption | exact ones_of rfl | exact encW_one _ | exact encB_one _ | (intro u hu; simp at hu; rcases hu with rfl | rfl <;> rfl) | (intro u hu; simp at hu; subst hu; rfl) | simp)) (by (repeat (first | exact Pick.head | apply Pick.tail | apply Pick.app))) (by (first | rfl | assumption | (simp; done) | omega)) ?_)
   refine JL.nil (JE.then_normal (J.seq (J.seq (J.region (JL.step (y_fieldAddr hT rfl rfl rfl rfl rfl rfl) rfl rfl rfl ?_)))))
   refine JL.step (y_load1 hT rfl rfl rfl (by (exact Rd1.row (by (repeat (first | exact Pick.head | apply Pick.tail | apply Pick.app))) (by rfl)))) rfl rfl rfl ?_
   refine JL.step (y_lss rfl rfl) rfl rfl rfl (JL.step (y_move rfl) rfl rfl rfl ?_)
   all_goals (first | (refine JL.gsplit_dec rfl rfl rfl (fun h => ?_) (fun h => ?_) <;> try (first | (exfalso; omega) | exact absurd rfl h)) | (refine JL.gsplit rfl rfl rfl (fun h => ?_) (fun h => ?_) <;> try (first | cases h | (exfalso; simp at h; done))) | skip)
   all_goals (first | refine JL.gskip rfl rfl rfl rfl rfl rfl ?_ | refine JL.gskipU rfl rfl rfl rfl rfl ?_ | refine JL.gstep rfl rfl rfl (y_fieldAddr hT rfl rfl rfl rfl rfl rfl) rfl rfl ?_)
   all_goals (first | refine JL.gskip rfl rfl rfl rfl rfl rfl ?_ | refine JL.gskipU rfl rfl rfl rfl rfl ?_ | refine JL.gstep rfl rfl rfl (y_load1 hT rfl rfl rfl (by (exact Rd1.row (by (repeat (first | exact Pick.head | apply Pick.tail | apply Pick.app))) (by rfl)))) rfl rfl ?_)
   all_goals (first | refine JL.gskip rfl rfl rfl rfl rfl rfl ?_ | refine JL.gskipU rfl rfl rfl rfl rfl ?_ | refine JL.gstep rfl rfl rfl (y_fieldAddr hT rfl rfl rfl rfl rfl rfl) rfl rfl ?_)
   all_goals (first | refine JL.gskip rfl rfl rfl rfl rfl rfl ?_ | refine JL.gskipU rfl rfl rfl rfl rfl ?_ | refine JL.gstep rfl rfl rfl (y_load1 hT rfl rfl rfl (by (exact Rd1.row (by (repeat (first | exact Pick.head | apply Pick.tail | apply Pick.app))) (by rfl)))) rfl rfl ?_)
   all_goals (first | refine JL.gskip rfl rfl rfl rfl rfl rfl ?_ | refine JL.gskipU rfl rfl rfl rfl rfl ?_ | refine JL.gstep rfl rfl rfl (y_geq rfl rfl) rfl rfl ?_)
   all_goals (refine JL.step (y_pick rfl rfl rfl) rfl rfl rfl ?_)
   all_goals refine JL.nil (JE.then_normal ?_)
   all_goals
    first | apply J.cond_dec rfl | apply J.cond rfl
    case' ht =>
     intro h
     try (first | (exfalso; omega) | (cases h; done) | (exfalso; simp at h; done) | subst h)
     all_goals
      have hskip : ¬ (0 ≤ w.2.1 ∧ w.2.1 < clients) := by omega
      refine J.exit (JE.then_exit (JE.block_exit (JE.then_normal (J.region ?_))))
      refine JL.step (y_add rfl rfl (by (first | exact wrap_i64 (by omega) (by omega) | rfl))) rfl rfl rfl ?_
      refine JL.step (y_move rfl) rfl rfl rfl ?_
      refine JL.nil ?_
      first
      | have zz : ¬ (0 ≤ w.2.1 ∧ w.2.1 < clients) := hskip
        exact JE.round (s := i) (i + 1) ⟨by omega, fun j w' hj hw' => by
         rcases Nat.lt_or_ge j i with q | q
         · exact hF j w' q hw'
         · obtain rfl : j = i := by omega
           rw [hh] at hw'
           cases hw'
           exact fun a b => absurd ⟨a, b⟩ zz⟩ ⟨rfl, rfl, rfl, rfl, rfl, trivial⟩ (fun w h => h.sup (by (repeat (first | exact Sup.refl | apply Sup.cons (by (repeat (first | exact Pick.head | apply Pick.tail | apply Pick.app))) | apply Sup.app | apply Sup.skip | apply Sup.skips)))) (by omega)
      | have hall : ∀ b ∈ refB w.2.1 ws, okB hops b := fun b hb => by
         rw [hB] at hb
         obtain ⟨k, hk⟩ := List.getElem?_of_mem hb
         have := (List.getElem?_eq_some_iff.1 hk).1
         exact hjok k b (by omega) hk
        exact JE.round (s := i) (i + 1) ⟨by omega, fun j w' hj hw' => by
         rcases Nat.lt_or_ge j i with q | q
         · exact hF j w' q hw'
         · obtain rfl : j = i := by omega
           rw [hh] at hw'
           cases hw'
           exact fun _ _ => hall⟩ ⟨rfl, rfl, rfl, rfl, rfl, trivial⟩ (fun w h => h.sup (by (repeat (first | exact Sup.refl | apply Sup.cons (by (repeat (first | exact Pick.head | apply Pick.tail | apply Pick.app))) | apply Sup.app | apply Sup.skip | apply Sup.skips)))) (by omega)
    case' hf =>
     intro h
     try (first | (exfalso; omega) | (cases h; done) | (exfalso; simp at h; done) | subst h)
     all_goals
      have hgo : 0 ≤ w.2.1 ∧ w.2.1 < clients := by omega
      refine J.skip ?_
   all_goals refine JE.then_normal ?_
   all_goals
    refine J.seq (J.region (JL.step (y_move rfl) rfl rfl rfl (JL.step (y_fieldAddr hT rfl rfl rfl rfl rfl rfl) rfl rfl rfl ?_)))
    refine JL.step (y_load1 hT rfl rfl rfl (by (exact Rd1.row (by (repeat (first | exact Pick.head | apply Pick.tail | apply Pick.app))) (by rfl)))) rfl rfl rfl ?_
    refine JL.loud rfl (l_callF e29 rfl rfl (rbursts_spec E (some ⟨g, o, none⟩) n c ws w.2.1 _ hn hn8 hw (by (repeat (first | assumption | apply InL.cons | apply InL.app)))) ?_)
    rintro _ _ ⟨a9, c9, rfl, rfl⟩
    refine JL.step (y_len_slice hT rfl rfl rfl) rfl rfl rfl (JL.step (y_move rfl) rfl rfl rfl ?_)
    refine JL.nil (JE.then_normal (J.block ?_))
    have hBl := refB_length w.2.1 ws
    obtain ⟨B, hB⟩ : ∃ B, refB w.2.1 ws = B := ⟨_, rfl⟩
    rw [hB] at hBl ⊢
    refine J.fact (fun w s => Sat.own_at (s.pick Pick.head)) fun o9 => ?_
    refine J.loop (α := Nat) (fun j => j ≤ B.length ∧ ∀ (k : Nat) (b : BurT), k < j → B[k]? = some b → okB hops b) (fun j => [(1, .slice (some ⟨g, o, none⟩) n c), (2, .pointer (some ⟨bP, 0, none⟩)), (22, .slice (some ⟨g, o, none⟩) n c), (23, .int .i64 n), (24, .int .i64 i), (41, .slice a9 B.length c9), (42, .int .i64 B.length), (43, .int .i64 j)]) (fun _ => own 65 3 (.slice a9 B.length c9) B.length (B.flatMap buE) :: row bP 61 (plaE clients hops noise sv rv) :: l) (fun j => B.length - j) 0 ⟨Nat.zero_le _, by intro k b h; exact absurd h (Nat.not_lt_zero _)⟩ ⟨rfl, rfl, rfl, rfl, rfl, rfl, rfl, rfl, trivial⟩ (fun w h => h.sup (by (repeat (first | exact Sup.refl | apply Sup.cons (by (repeat (first | exact Pick.head | apply Pick.tail | apply Pick.app))) | apply Sup.app | apply Sup.skip | apply Sup.skips)))) ?_
    rintro j ⟨hj, hjok⟩
    try dsimp only
    refine J.seq (J.region (JL.step (y_lss rfl rfl) rfl rfl rfl ?_))
    refine JL.nil (JE.then_normal (J.seq ?_))
    first | apply J.cond_dec rfl | apply J.cond rfl
    case' ht =>
     intro h
     try (first | (exfalso; omega) | (cases h; done) | (exfalso; simp at h; done) | subst h)
     all_goals
      refine J.skip ?_
    case' hf =>
     intro h
     try (first | (exfalso; omega) | (cases h; done) | (exfalso; simp at h; done) | subst h)
     all_goals
      refine J.exit (JE.then_exit (JE.then_exit (JE.block_exit (JE.block_normal (JE.then_normal (J.region ?_))))))
      refine JL.step (y_add rfl rfl (by (first | exact wrap_i64 (by omega) (by omega) | rfl))) rfl rfl rfl ?_
      refine JL.step (y_move rfl) rfl rfl rfl ?_
      refine JL.nil ?_
      first
      | have zz : ¬ (0 ≤ w.2.1 ∧ w.2.1 < clients) := hskip
        exact JE.round (s := i) (i + 1) ⟨by omega, fun j w' hj hw' => by
         rcases Nat.lt_or_ge j i with q | q
         · exact hF j w' q hw'
         · obtain rfl : j = i := by omega
           rw [hh] at hw'
           cases hw'
           exact fun a b => absurd ⟨a, b⟩ zz⟩ ⟨rfl, rfl, rfl, rfl, rfl, trivial⟩ (fun w h => h.sup (by (repeat (first | exact Sup.refl | apply Sup.cons (by (repeat (first | exact Pick.head | apply Pick.tail | apply Pick.app))) | apply Sup.app | apply Sup.skip | apply Sup.skips)))) (by omega)
      | have hall : ∀ b ∈ refB w.2.1 ws, okB hops b := fun b hb => by
         rw [hB] at hb
         obtain ⟨k, hk⟩ := List.getElem?_of_mem hb
         have := (List.getElem?_eq_some_iff.1 hk).1
         exact hjok k b (by omega) hk
        exact JE.round (s := i) (i + 1) ⟨by omega, fun j w' hj hw' => by
         rcases Nat.lt_or_ge j i with q | q
         · exact hF j w' q hw'
         · obtain rfl : j = i := by omega
           rw [hh] at hw'
           cases hw'
           exact fun _ _ => hall⟩ ⟨rfl, rfl, rfl, rfl, rfl, trivial⟩ (fun w h => h.sup (by (repeat (first | exact Sup.refl | apply Sup.cons (by (repeat (first | exact Pick.head | apply Pick.tail | apply Pick.app))) | apply Sup.app | apply Sup.skip | apply Sup.skips)))) (by omega)
    all_goals refine JE.then_normal ?_
    all_goals
     refine J.seq (J.block (J.seq ?_))
     have hltj : j < B.length := by omega
     obtain ⟨b, hbb⟩ : ∃ b, B[j]? = some b := ⟨B[j], List.getElem?_eq_getElem _⟩
     obtain ⟨g9, o9', rfl, hr9⟩ := (o9.inl (l := own 65 3 (.slice a9 B.length c9) B.length (B.flatMap buE) :: row bP 61 (plaE clients hops noise sv rv) :: l) Pick.head).addr (by omega)
     refine J.region ?_
     refine JL.step (y_indexAddr_slice hT rfl rfl rfl rfl rfl (by (first | omega | exact Nat.le_of_ble_eq_true rfl | decide | (simp; omega))) (by (first | omega | exact Nat.le_of_ble_eq_true rfl | decide | (simp; omega)))) rfl rfl rfl ?_
     refine JL.step (y_loadN hT rfl rfl rfl (RdN.elem (hr9 []) (fun x _ => buE_length x) hbb) rfl) rfl rfl rfl ?_
     refine JL.loud rfl (l_alloc hT rfl rfl (by (first | rfl | simp)) rfl (fun b4 => ?_))
     refine JL.loud rfl (l_storeAll hT rfl rfl rfl (by (first | rfl | assumption | (simp; done) | omega)) (by (first | assumption | exact ones_of rfl | exact encW_one _ | exact encB_one _ | (intro u hu; simp at hu; rcases hu with rfl | rfl <;> rfl) | (intro u hu; simp at hu; subst hu; rfl) | simp)) (by (repeat (first | exact Pick.head | apply Pick.tail | apply Pick.app))) (by (first | rfl | assumption | (simp; done) | omega)) ?_)
     refine JL.nil (JE.then_normal (J.seq (J.region (JL.step (y_fieldAddr hT rfl rfl rfl rfl rfl rfl) rfl rfl rfl ?_))))
     refine JL.step (y_load1 hT rfl rfl rfl (by (exact Rd1.row (by (repeat (first | exact Pick.head | apply Pick.tail | apply Pick.app))) (by rfl)))) rfl rfl rfl ?_
     refine JL.step (y_lss rfl rfl) rfl rfl rfl (JL.step (y_move rfl) rfl rfl rfl ?_)
     all_goals (first | (refine JL.gsplit_dec rfl rfl rfl (fun h => ?_) (fun h => ?_) <;> try (first | (exfalso; omega) | exact absurd rfl h)) | (refine JL.gsplit rfl rfl rfl (fun h => ?_) (fun h => ?_) <;> try (first | cases h | (exfalso; simp at h; done))) | skip)
     all_goals (first | refine JL.gskip rfl rfl rfl rfl rfl rfl ?_ | refine JL.gskipU rfl rfl rfl rfl rfl ?_ | refine JL.gstep rfl rfl rfl (y_fieldAddr hT rfl rfl rfl rfl rfl rfl) rfl rfl ?_)
     all_goals (first | refine JL.gskip rfl rfl rfl rfl rfl rfl ?_ | refine JL.gskipU rfl rfl rfl rfl rfl ?_ | refine JL.gstep rfl rfl rfl (y_load1 hT rfl rfl rfl (by (exact Rd1.row (by (repeat (first | exact Pick.head | apply Pick.tail | apply Pick.app))) (by rfl)))) rfl rfl ?_)
     all_goals (first | refine JL.gskip rfl rfl rfl rfl rfl rfl ?_ | refine JL.gskipU rfl rfl rfl rfl rfl ?_ | refine JL.gstep rfl rfl rfl (y_rem rfl rfl (by (first | omega | exact Nat.le_of_ble_eq_true rfl | decide | (simp; omega))) (by rfl)) rfl rfl ?_)
     all_goals (first | refine JL.gskip rfl rfl rfl rfl rfl rfl ?_ | refine JL.gskipU rfl rfl rfl rfl rfl ?_ | refine JL.gstep rfl rfl rfl (y_neq rfl rfl) rfl rfl ?_)
     all_goals (refine JL.step (y_pick rfl rfl rfl) rfl rfl rfl ?_)
     all_goals (refine JL.step (y_move rfl) rfl rfl rfl ?_)
     all_goals (first | (refine JL.gsplit_dec rfl rfl rfl (fun h => ?_) (fun h => ?_) <;> try (first | (exfalso; omega) | exact absurd rfl h)) | (refine JL.gsplit rfl rfl rfl (fun h => ?_) (fun h => ?_) <;> try (first | cases h | (exfalso; simp at h; done))) | skip)
     all_goals (first | refine JL.gskip rfl rfl rfl rfl rfl rfl ?_ | refine JL.gskipU rfl rfl rfl rfl rfl ?_ | refine JL.gstep rfl rfl rfl (y_fieldAddr hT rfl rfl rfl rfl rfl rfl) rfl rfl ?_)
     all_goals (first | refine JL.gskip rfl rfl rfl rfl rfl rfl ?_ | refine JL.gskipU rfl rfl rfl rfl rfl ?_ | refine JL.gstep rfl rfl rfl (y_load1 hT rfl rfl rfl (by (exact Rd1.row (by (repeat (first | exact Pick.head | apply Pick.tail | apply Pick.app))) (by rfl)))) rfl rfl ?_)
     all_goals (first | refine JL.gskip rfl rfl rfl rfl rfl rfl ?_ | refine JL.gskipU rfl rfl rfl rfl rfl ?_ | refine JL.gstep rfl rfl rfl (y_fieldAddr hT rfl rfl rfl rfl rfl rfl) rfl rfl ?_)
     all_goals (first | refine JL.gskip rfl rfl rfl rfl rfl rfl ?_ | refine JL.gskipU rfl rfl rfl rfl rfl ?_ | refine JL.gstep rfl rfl rfl (y_load1 hT rfl rfl rfl (by (exact Rd1.row (by (repeat (first | exact Pick.head | apply Pick.tail | apply Pick.app))) (by rfl)))) rfl rfl ?_)
     all_goals (first | refine JL.gskip rfl rfl rfl rfl rfl rfl ?_ | refine JL.gskipU rfl rfl rfl rfl rfl ?_ | refine JL.gstep rfl rfl rfl (y_mul rfl rfl (by (first | exact wrap_i64 (by omega) (by omega) | rfl))) rfl rfl ?_)
     all_goals (first | refine JL.gskip rfl rfl rfl rfl rfl rfl ?_ | refine JL.gskipU rfl rfl rfl rfl rfl ?_ | refine JL.gstep rfl rfl rfl (y_add rfl rfl (by (first | exact wrap_i64 (by omega) (by omega) | rfl))) rfl rfl ?_)
     all_goals (first | refine JL.gskip rfl rfl rfl rfl rfl rfl ?_ | refine JL.gskipU rfl rfl rfl rfl rfl ?_ | refine JL.gstep rfl rfl rfl (y_neq rfl rfl) rfl rfl ?_)
     all_goals (refine JL.step (y_pick rfl rfl rfl) rfl rfl rfl ?_)
     all_goals refine JL.nil (JE.then_normal ?_)
     all_goals
      first | apply J.cond_dec rfl | apply J.cond rfl
      case' ht =>
       intro h
       try (first | (exfalso; omega) | (cases h; done) | (exfalso; simp at h; done) | subst h)
       all_goals
        have hnok : ¬ okB hops b := fun q => by
         rw [okB_iff] at q
         obtain ⟨q1, q2, q3⟩ := q
         first | omega | exact absurd q2 (by assumption)
        refine J.seq (J.region (JL.step (y_assign rfl) rfl rfl rfl ?_))
        refine JL.nil (JE.then_normal (J.ret (JE.block_ret (JE.then_ret (JE.then_ret (JE.block_ret (JE.block_ret (JE.then_ret (JE.then_ret (JE.block_ret (JE.then_ret ?_)))))))))))
        refine JE.ret1 (.inl rfl) rfl rfl (by (first | exact RV.tmp rfl | exact RV.cell1 hT rfl rfl rfl (by (exact Rd1.row (by (repeat (first | exact Pick.head | apply Pick.tail | apply Pick.app))) (by rfl))) | exact RV.cellN hT rfl rfl rfl (by (first | exact RdN.rowAll (by (repeat (first | exact Pick.head | apply Pick.tail | apply Pick.app))) | exact RdN.own (by (repeat (first | exact Pick.head | apply Pick.tail | apply Pick.app))))) (by (first | rfl | assumption | (simp; done) | omega)))) ?_
        first
        | have zz : ¬ stP clients hops ws := hbad
          exact ⟨l, fun w h => h.sup (by (repeat (first | exact Sup.refl | apply Sup.cons (by (repeat (first | exact Pick.head | apply Pick.tail | apply Pick.app))) | apply Sup.app | apply Sup.skip | apply Sup.skips))), false, rfl, ⟨fun q => (by cases q), fun q => absurd q zz⟩, rfl⟩
        | have zz : ¬ okB hops b := hnok
          exact ⟨l, fun w h => h.sup (by (repeat (first | exact Sup.refl | apply Sup.cons (by (repeat (first | exact Pick.head | apply Pick.tail | apply Pick.app))) | apply Sup.app | apply Sup.skip | apply Sup.skips))), false, rfl, ⟨fun q => (by cases q), fun q => absurd (q.2.2.2 w hwm hgo.1 hgo.2 b (by rw [hB]; exact List.mem_of_getElem? hbb)) zz⟩, rfl⟩
        | refine ⟨l, fun w h => h.sup (by (repeat (first | exact Sup.refl | apply Sup.cons (by (repeat (first | exact Pick.head | apply Pick.tail | apply Pick.app))) | apply Sup.app | apply Sup.skip | apply Sup.skips))), true, rfl, ⟨fun _ => ⟨hcl, hh1.1, hh1.2, fun w hw' q1 q2 => ?_⟩, fun _ => rfl⟩, rfl⟩
          obtain ⟨k, hk⟩ := List.getElem?_of_mem hw'
          have := (List.getElem?_eq_some_iff.1 hk).1
          exact hF k w (by omega) hk q1 q2
      case' hf =>
       intro h
       try (first | (exfalso; omega) | (cases h; done) | (exfalso; simp at h; done) | subst h)
       all_goals
        have hokb : okB hops b := by
         rw [okB_iff]
         refine ⟨by omega, ?_, by omega⟩
         first | assumption | exact Decidable.of_not_not (by assumption)
        refine J.skip ?_
     all_goals refine JE.block_normal (JE.then_normal ?_)
     all_goals
      refine J.region ?_
      refine JL.step (y_add rfl rfl (by (first | exact wrap_i64 (by omega) (by omega) | rfl))) rfl rfl rfl ?_
      refine JL.step (y_move rfl) rfl rfl rfl ?_
      refine JL.nil ?_
    all_goals
     exact JE.round (s := j) (j + 1) ⟨by omega, fun k b' hk hb' => by
      rcases Nat.lt_or_ge k j with q | q
      · exact hjok k b' q hb'
      · obtain rfl : k = j := by omega
        rw [hbb] at hb'
        cases hb'
        exact hokb⟩ ⟨rfl, rfl, rfl, rfl, rfl, rfl, rfl, rfl, trivial⟩ (fun w h => h.sup (by (repeat (first | exact Sup.refl | apply Sup.cons (by (repeat (first | exact Pick.head | apply Pick.tail | apply Pick.app))) | apply Sup.app | apply Sup.skip | apply Sup.skips)))) (by omega)
end
end
end Go.Proofs.YtfohdnclpbipeaaDoor
