import Derived.Test.YtfohdnclpbipeaaDoorJoin1
import Derived.Test.YtfohdnclpbipeaaDoorJoin2
import Derived.Test.YtfohdnclpbipeaaDoorJoin3
import Derived.Test.YtfohdnclpbipeaaDoorJoin4
namespace Go.Proofs.YtfohdnclpbipeaaDoor
section
open Go Go.SL
section
attribute [local irreducible] J JL JE JM LS Y Fc RV Code.wp wpList Code.wpIn wpListIn
attribute [local irreducible] Yc
attribute [local irreducible] ltF cmpF flE
variable (E : World)
theorem pdqF (hS : Sort.SWO ltF) (m : Nat) : ∀ (g c n a b : Nat) (ia ib lim : Int) (d : Array FlowT) (sp : List Value) (r : List HProp), b - a ≤ m → ia = a → ib = b → d.size = n → a ≤ b → b ≤ n → Sort.Below ltF a b d → n < 4611686018427387904 →
 Fc prog E 73 [.slice (some ⟨g, 0, none⟩) n c, .int .i64 ia, .int .i64 ib, .int .i64 lim, (Value.func (.func 38) #[] [].toArray)].toArray (arF g d sp :: r) (fun v l' => v = .tuple #[] ∧ ∃ d', Sort.PermIn a b d d' ∧ Sort.SortedIn ltF a b d' ∧ l' = arF g d' sp :: r) := by
 induction m using Nat.strongRecOn with
 | ind m ih =>
 intro g c n a b ia ib lim d sp r hm ea eb hn hab hb hB h63
 refine Fc.post ?_
 subst ea eb
 refine Fc.of_body (c := ?codeC) Tryd.func73 ?hb Tryd.ntmps73 ?hl ?_
 case hb => exact rfl
 case hl => exact rfl
 refine J.seq (J.region (JL.step (y_assign rfl) rfl rfl rfl ?_))
 refine JL.nil (JE.then_normal (J.seq (J.region (JL.step (y_assign rfl) rfl rfl rfl ?_))))
 refine JL.nil (JE.then_normal (J.block ?_))
 refine J.loop (α := Nat × Nat × Int × Bool × Bool × Array FlowT) (fun s => a ≤ s.1 ∧ s.1 ≤ s.2.1 ∧ s.2.1 ≤ b ∧ s.2.2.2.2.2.size = n ∧ Sort.Below ltF s.1 s.2.1 s.2.2.2.2.2 ∧ ∀ R, Sort.PermIn s.1 s.2.1 s.2.2.2.2.2 R → Sort.SortedIn ltF s.1 s.2.1 R → Sort.PermIn a b d R ∧ Sort.SortedIn ltF a b R) (fun s => [(0, .slice (some ⟨g, 0, none⟩) n c), (1, .int .i64 s.1), (2, .int .i64 s.2.1), (3, .int .i64 s.2.2.1), (10, .bool s.2.2.2.1), (11, .bool s.2.2.2.2.1), (4, (Value.func (.func 38) #[] [].toArray))]) (fun s => arF g s.2.2.2.2.2 sp :: r) (fun s => s.2.1 - s.1) (a, b, lim, true, true, d) ⟨Nat.le_refl _, hab, Nat.le_refl _, hn, hB, fun R h1 h2 => ⟨h1, h2⟩⟩ ⟨rfl, rfl, rfl, rfl, rfl, rfl, rfl, trivial⟩ (fun w h => h) ?_
 rintro ⟨x, y, lm0, wb, wp, d1⟩ ⟨hx, hxy, hy, hs1, hB1, hg1⟩
 try dsimp only at hx hxy hy hs1 hB1 hg1 ⊢
 refine J.block (J.seq (J.region (JL.step (y_move rfl) rfl rfl rfl (JL.step (y_move rfl) rfl rfl rfl ?_))))
 refine JL.step (y_sub rfl rfl (by (first | exact wrap_i64 (by omega) (by omega) | rfl))) rfl rfl rfl ?_
 refine JL.step (y_assign rfl) rfl rfl rfl ?_
 refine JL.nil (JE.then_normal (J.seq (J.seq (J.region (JL.step (y_move rfl) rfl rfl rfl (JL.step (y_leq rfl rfl) rfl rfl rfl ?_))))))
 refine JL.nil (JE.then_normal ?_)
 first | apply J.cond_dec rfl | apply J.cond rfl
 case' ht =>
  intro h
  try (first | (exfalso; omega) | (cases h; done) | (exfalso; simp at h; done) | subst h)
  all_goals
   have hfin := hg1 _ (Sort.insertionSort_holds hS d1 x y hxy (by omega)).1 (Sort.insertionSort_holds hS d1 x y hxy (by omega)).2
   refine J.seq (J.region (JL.step (y_move rfl) rfl rfl rfl (JL.step (y_move rfl) rfl rfl rfl (JL.step (y_move rfl) rfl rfl rfl (JL.step (y_move rfl) rfl rfl rfl ?_)))))
   refine JL.loud rfl (l_callF e87 rfl rfl (Fc.on (Split.cons (by (repeat (first | exact Pick.head | apply Pick.tail | apply Pick.app))) Split.nil) (insF E g c n x y _ _ d1 sp _ rfl rfl hs1 (by omega) (by omega) h63)) ?_)
   rintro _ _ ⟨rfl, rfl⟩
   refine JL.nil (JE.then_normal (J.ret (JE.then_ret (JE.block_ret (JE.then_ret (JE.block_ret ?_))))))
   refine JE.ret0 (.inl rfl) rfl rfl  ?_
   exact ⟨_, fun w h => h, rfl, _, hfin.1, hfin.2, rfl⟩
 case' hf =>
  intro h
  try (first | (exfalso; omega) | (cases h; done) | (exfalso; simp at h; done) | subst h)
  all_goals
   refine J.skip ?_
 all_goals refine JE.then_normal ?_
 all_goals
  refine J.seq (J.seq (J.region (JL.step (y_move rfl) rfl rfl rfl (JL.step (y_eql rfl rfl) rfl rfl rfl ?_))))
  refine JL.nil (JE.then_normal ?_)
  first | apply J.cond_dec rfl | apply J.cond rfl
  case' ht =>
   intro h
   try (first | (exfalso; omega) | (cases h; done) | (exfalso; simp at h; done) | subst h)
   all_goals
    have hfin := hg1 _ (Sort.heapSort_holds hS d1 x y hxy (by omega)).1 (Sort.heapSort_holds hS d1 x y hxy (by omega)).2
    refine J.seq (J.region (JL.step (y_move rfl) rfl rfl rfl (JL.step (y_move rfl) rfl rfl rfl (JL.step (y_move rfl) rfl rfl rfl (JL.step (y_move rfl) rfl rfl rfl ?_)))))
    refine JL.loud rfl (l_callF e88 rfl rfl (Fc.on (Split.cons (by (repeat (first | exact Pick.head | apply Pick.tail | apply Pick.app))) Split.nil) (heapF E g c n x y _ _ d1 sp _ rfl rfl hs1 (by omega) (by omega) h63)) ?_)
    rintro _ _ ⟨rfl, dh, rfl, rfl⟩
    refine JL.nil (JE.then_normal (J.ret (JE.then_ret (JE.block_ret (JE.then_ret (JE.block_ret ?_))))))
    refine JE.ret0 (.inl rfl) rfl rfl  ?_
    exact ⟨_, fun w h => h, rfl, _, hfin.1, hfin.2, rfl⟩
  case' hf =>
   intro h
   try (first | (exfalso; omega) | (cases h; done) | (exfalso; simp at h; done) | subst h)
   all_goals
    refine J.skip ?_
  all_goals refine JE.then_normal ?_
  all_goals
   refine J.seqK (α := Int × Array FlowT) (fun q => x + 12 < y ∧ Sort.PermIn x y d1 q.2) (fun q => [(0, .slice (some ⟨g, 0, none⟩) n c), (1, .int .i64 x), (2, .int .i64 y), (3, .int .i64 q.1), (10, .bool wb), (11, .bool wp), (12, .int .i64 ((y - x : Nat) : Int)), (4, (Value.func (.func 38) #[] [].toArray))]) (fun q => arF g q.2 sp :: r) ?hj10 (fun hk10 => ?hf10)
   case hf10 =>
    refine J.seq (J.region (JL.step (y_move rfl) rfl rfl rfl (JL.step (y_not rfl) rfl rfl rfl ?_)))
    refine JL.nil (JE.then_normal ?_)
    first | apply J.cond_dec rfl | apply J.cond rfl
    case' ht =>
     intro h
     try (first | (exfalso; omega) | (cases h; done) | (exfalso; simp at h; done) | subst h)
     all_goals
      refine J.seq (J.region (JL.step (y_move rfl) rfl rfl rfl (JL.step (y_move rfl) rfl rfl rfl (JL.step (y_move rfl) rfl rfl rfl (JL.step (y_move rfl) rfl rfl rfl ?_)))))
      refine JL.loud rfl (l_callF e89 rfl rfl (Fc.on (Split.cons (by (repeat (first | exact Pick.head | apply Pick.tail | apply Pick.app))) Split.nil) (brkF E g c n x y _ _ d1 sp _ rfl rfl hs1 (by omega) (by omega) h63)) ?_)
      rintro _ _ ⟨rfl, db, hdb, rfl⟩
      refine JL.nil (JE.then_normal (J.region (JL.step (y_move rfl) rfl rfl rfl ?_)))
      refine JL.step (y_sub rfl rfl (by (first | exact wrap_i64 (by omega) (by omega) | rfl))) rfl rfl rfl ?_
      refine JL.step (y_assign rfl) rfl rfl rfl ?_
      refine JL.nil ?_
    case' hf =>
     intro h
     try (first | (exfalso; omega) | (cases h; done) | (exfalso; simp at h; done) | subst h)
     all_goals
      refine J.skip ?_
    all_goals refine JE.then_normal ?_
    all_goals
     first | exact J.closeK hk10 (IntKind.i64.wrap (lm0 - 1), db) ⟨(by omega : x + 12 < y), hdb⟩ ⟨rfl, rfl, rfl, rfl, rfl, rfl, (congrArg (fun z => some (Value.int .i64 z)) (by first | omega | (dsimp only; omega))), rfl, trivial⟩ (fun w h => h) | exact J.closeK hk10 (lm0, d1) ⟨(by omega : x + 12 < y), Sort.permIn_refl _ _ _⟩ ⟨rfl, rfl, rfl, rfl, rfl, rfl, (congrArg (fun z => some (Value.int .i64 z)) (by first | omega | (dsimp only; omega))), rfl, trivial⟩ (fun w h => h)
   rintro ⟨lm, d2⟩ ⟨hlen, hp2⟩
   try dsimp only at hlen hp2 ⊢
   have hs2 : d2.size = n := by rw [hp2.1]; exact hs1
   refine J.seq (J.region (JL.step (y_move rfl) rfl rfl rfl (JL.step (y_move rfl) rfl rfl rfl (JL.step (y_move rfl) rfl rfl rfl (JL.step (y_move rfl) rfl rfl rfl ?_)))))
   refine JL.loud rfl (l_callF e90 rfl rfl (Fc.on (Split.cons (by (repeat (first | exact Pick.head | apply Pick.tail | apply Pick.app))) Split.nil) (pivotF E g c n x y _ _ d2 sp _ rfl rfl hs2 (by omega) (by omega) h63)) ?_)
   rintro _ _ ⟨pv, hint, rfl, hv1, hv2, rfl⟩
   refine JL.step (y_move rfl) rfl rfl rfl (JL.step (y_extract rfl rfl) rfl rfl rfl (JL.step (y_extract rfl rfl) rfl rfl rfl (JL.step (y_assign rfl) rfl rfl rfl (JL.step (y_assign rfl) rfl rfl rfl ?_))))
   refine JL.nil (JE.then_normal ?_)
   refine J.seqK (α := Nat × Int × Array FlowT) (fun q => x ≤ q.1 ∧ q.1 < y ∧ x + 12 < y ∧ Sort.PermIn x y d1 q.2.2) (fun q => [(0, .slice (some ⟨g, 0, none⟩) n c), (1, .int .i64 x), (2, .int .i64 y), (3, .int .i64 lm), (10, .bool wb), (11, .bool wp), (12, .int .i64 ((y - x : Nat) : Int)), (13, .int .i64 q.1), (14, .int .i64 q.2.1), (4, (Value.func (.func 38) #[] [].toArray))]) (fun q => arF g q.2.2 sp :: r) ?hj15 (fun hk15 => ?hf15)
   case hf15 =>
    refine J.seq (J.region (JL.step (y_move rfl) rfl rfl rfl (JL.step (y_eql rfl rfl) rfl rfl rfl ?_)))
    refine JL.nil (JE.then_normal ?_)
    first | apply J.cond_dec rfl | apply J.cond rfl
    case' ht =>
     intro h
     try (first | (exfalso; omega) | (cases h; done) | (exfalso; simp at h; done) | subst h)
     all_goals
      refine J.seq (J.region (JL.step (y_move rfl) rfl rfl rfl (JL.step (y_move rfl) rfl rfl rfl (JL.step (y_move rfl) rfl rfl rfl (JL.step (y_move rfl) rfl rfl rfl ?_)))))
      refine JL.loud rfl (l_callF e91 rfl rfl (Fc.on (Split.cons (by (repeat (first | exact Pick.head | apply Pick.tail | apply Pick.app))) Split.nil) (revF E g c n x y _ _ d2 sp _ rfl rfl hs2 (by omega) (by omega) h63)) ?_)
      rintro _ _ ⟨rfl, rfl⟩
      refine JL.nil (JE.then_normal (J.seq (J.region (JL.step (y_move rfl) rfl rfl rfl ?_))))
      refine JL.step (y_sub rfl rfl (by (first | exact wrap_i64 (by omega) (by omega) | rfl))) rfl rfl rfl ?_
      refine JL.step (y_move rfl) rfl rfl rfl (JL.step (y_move rfl) rfl rfl rfl ?_)
      refine JL.step (y_sub rfl rfl (by (first | exact wrap_i64 (by omega) (by omega) | rfl))) rfl rfl rfl ?_
      refine JL.step (y_sub rfl rfl (by (first | exact wrap_i64 (by omega) (by omega) | rfl))) rfl rfl rfl ?_
      refine JL.step (y_assign rfl) rfl rfl rfl ?_
      refine JL.nil (JE.then_normal (J.region (JL.step (y_assign rfl) rfl rfl rfl ?_)))
      refine JL.nil ?_
    case' hf =>
     intro h
     try (first | (exfalso; omega) | (cases h; done) | (exfalso; simp at h; done) | subst h)
     all_goals
      refine J.skip ?_
    all_goals refine JE.then_normal ?_
    all_goals
     first | exact J.closeK hk15 (y - 1 - (pv - x), 1, Sort.reverseRange d2 x y) ⟨by dsimp only; omega, by dsimp only; omega, hlen, Sort.permIn_trans _ _ _ _ _ hp2 (Sort.reverseRange_holds d2 x y hxy (by omega))⟩ ⟨rfl, rfl, rfl, rfl, rfl, rfl, rfl, (congrArg (fun z => some (Value.int .i64 z)) (by first | omega | (dsimp only; omega))), rfl, rfl, trivial⟩ (fun w h => h) | exact J.closeK hk15 (pv, hint, d2) ⟨hv1, hv2, hlen, hp2⟩ ⟨rfl, rfl, rfl, rfl, rfl, rfl, rfl, rfl, rfl, rfl, trivial⟩ (fun w h => h)
   rintro ⟨pv, hint, d2⟩ ⟨hv1, hv2, hlen, hp2⟩
   try dsimp only at hv1 hv2 hlen hp2 ⊢
   have hs2 : d2.size = n := by rw [hp2.1]; exact hs1
   have hB2 := hB1.perm (by omega) hp2
   have hpi := Sort.partialInsertionSort_holds hS d2 x y (by omega) (by omega) hB2
   refine J.seqK (α := Array FlowT) (fun q => Sort.PermIn x y d1 q) (fun q => [(0, .slice (some ⟨g, 0, none⟩) n c), (1, .int .i64 x), (2, .int .i64 y), (3, .int .i64 lm), (10, .bool wb), (11, .bool wp), (12, .int .i64 ((y - x : Nat) : Int)), (13, .int .i64 pv), (4, (Value.func (.func 38) #[] [].toArray))]) (fun q => arF g q sp :: r) ?hj17 (fun hk17 => ?hf17)
   case hf17 =>
    refine J.seq (J.region (JL.step (y_move rfl) rfl rfl rfl (JL.step (y_move rfl) rfl rfl rfl ?_)))
    all_goals (first | (refine JL.gsplit_dec rfl rfl rfl (fun h => ?_) (fun h => ?_) <;> try (first | (exfalso; omega) | exact absurd rfl h)) | (refine JL.gsplit rfl rfl rfl (fun h => ?_) (fun h => ?_) <;> try (first | cases h | (exfalso; simp at h; done))) | skip)
    all_goals (first | refine JL.gskip rfl rfl rfl rfl rfl rfl ?_ | refine JL.gskipU rfl rfl rfl rfl rfl ?_ | refine JL.gstep rfl rfl rfl (y_move rfl) rfl rfl ?_)
    all_goals (refine JL.step (y_pick rfl rfl rfl) rfl rfl rfl ?_)
    all_goals (refine JL.step (y_move rfl) rfl rfl rfl ?_)
    all_goals (first | (refine JL.gsplit_dec rfl rfl rfl (fun h => ?_) (fun h => ?_) <;> try (first | (exfalso; omega) | exact absurd rfl h)) | (refine JL.gsplit rfl rfl rfl (fun h => ?_) (fun h => ?_) <;> try (first | cases h | (exfalso; simp at h; done))) | skip)
    all_goals (first | refine JL.gskip rfl rfl rfl rfl rfl rfl ?_ | refine JL.gskipU rfl rfl rfl rfl rfl ?_ | refine JL.gstep rfl rfl rfl (y_move rfl) rfl rfl ?_)
    all_goals (first | refine JL.gskip rfl rfl rfl rfl rfl rfl ?_ | refine JL.gskipU rfl rfl rfl rfl rfl ?_ | refine JL.gstep rfl rfl rfl (y_eql rfl rfl) rfl rfl ?_)
    all_goals (refine JL.step (y_pick rfl rfl rfl) rfl rfl rfl ?_)
    all_goals refine JL.nil (JE.then_normal ?_)
    all_goals
     first | apply J.cond_dec rfl | apply J.cond rfl
     case' ht =>
      intro h
      try (first | (exfalso; omega) | (cases h; done) | (exfalso; simp at h; done) | subst h)
      all_goals
       refine J.seq (J.region (JL.step (y_move rfl) rfl rfl rfl (JL.step (y_move rfl) rfl rfl rfl (JL.step (y_move rfl) rfl rfl rfl (JL.step (y_move rfl) rfl rfl rfl ?_)))))
       refine JL.loud rfl (l_callF e92 rfl rfl (Fc.on (Split.cons (by (repeat (first | exact Pick.head | apply Pick.tail | apply Pick.app))) Split.nil) (pinsF E g c n x y _ _ d2 sp _ rfl rfl hs2 (by omega) (by omega) h63)) ?_)
       rintro _ _ ⟨rfl, rfl⟩
       refine JL.nil (JE.then_normal ?_)
       first | apply J.cond_dec rfl | apply J.cond rfl
       case' ht =>
        intro h
        try (first | (exfalso; omega) | (cases h; done) | (exfalso; simp at h; done) | subst h)
        all_goals
         have hfin := hg1 _ (Sort.permIn_trans _ _ _ _ _ hp2 hpi.1) (hpi.2 h)
         refine J.ret (JE.then_ret (JE.block_ret (JE.then_ret (JE.block_ret ?_))))
         refine JE.ret0 (.inl rfl) rfl rfl  ?_
         exact ⟨_, fun w h => h, rfl, _, hfin.1, hfin.2, rfl⟩
       case' hf =>
        intro h
        try (first | (exfalso; omega) | (cases h; done) | (exfalso; simp at h; done) | subst h)
        all_goals
         refine J.skip ?_
     case' hf =>
      intro h
      try (first | (exfalso; omega) | (cases h; done) | (exfalso; simp at h; done) | subst h)
      all_goals
       refine J.skip ?_
    all_goals refine JE.then_normal ?_
    all_goals
     first | exact J.closeK hk17 (Sort.partialInsertionSort ltF d2 x y).1 (Sort.permIn_trans _ _ _ _ _ hp2 hpi.1) ⟨rfl, rfl, rfl, rfl, rfl, rfl, rfl, rfl, rfl, trivial⟩ (fun w h => h) | exact J.closeK hk17 d2 hp2 ⟨rfl, rfl, rfl, rfl, rfl, rfl, rfl, rfl, rfl, trivial⟩ (fun w h => h)
   rintro d3 hp3
   try dsimp only at hp3 ⊢
   have hs3 : d3.size = n := by rw [hp3.1]; exact hs1
   have hB3 := hB1.perm (by omega) hp3
   refine J.seq (J.seq ?_)
   by_cases hg : 0 < x
   all_goals
    refine J.draw _ _ [(0, .q), (1, .q), (2, .q), (3, .q), (4, .q), (5, .q), (6, .q), (7, .q), (8, .q), (9, .q), (10, .q), (11, .q), (12, .q), (13, .q), (14, .q), (15, .q), (16, .q)] mixed (by kernel_rfl) (Split.nil) ?_
    refine JM.quiet rfl rfl rfl rfl (fun m => y_move rfl) ?_
    first | refine JM.quiet rfl rfl rfl rfl (fun m => y_gtrB rfl rfl (decide_eq_true (by omega))) ?_ | refine JM.quiet rfl rfl rfl rfl (fun m => y_gtrB rfl rfl (decide_eq_false (by omega))) ?_
    refine JM.quiet rfl rfl rfl rfl (fun m => y_move rfl) ?_
    all_goals (first | refine JM.gskip rfl rfl rfl rfl rfl rfl rfl ?_ | refine JM.gskipU rfl rfl rfl rfl rfl rfl ?_ | refine JM.gquiet rfl rfl rfl rfl rfl rfl (fun m => y_move rfl) ?_)
    all_goals (first | refine JM.gskip rfl rfl rfl rfl rfl rfl rfl ?_ | refine JM.gskipU rfl rfl rfl rfl rfl rfl ?_ | refine JM.gquiet rfl rfl rfl rfl rfl rfl (fun m => y_move rfl) ?_)
    all_goals (first | refine JM.gskip rfl rfl rfl rfl rfl rfl rfl ?_ | refine JM.gskipU rfl rfl rfl rfl rfl rfl ?_ | refine JM.gquiet rfl rfl rfl rfl rfl rfl (fun m => y_move rfl) ?_)
    all_goals (first | refine JM.gskip rfl rfl rfl rfl rfl rfl rfl ?_ | refine JM.gskipU rfl rfl rfl rfl rfl rfl ?_ | refine JM.gquiet rfl rfl rfl rfl rfl rfl (fun m => y_sub rfl rfl (by (first | exact wrap_i64 (by omega) (by omega) | rfl))) ?_)
    all_goals (first | refine JM.gskip rfl rfl rfl rfl rfl rfl rfl ?_ | refine JM.gskipU rfl rfl rfl rfl rfl rfl ?_ | refine JM.gquiet rfl rfl rfl rfl rfl rfl (fun m => y_indexAddr_slice hT rfl rfl rfl rfl rfl (by (first | omega | exact Nat.le_of_ble_eq_true rfl | decide | (simp; omega))) (by (first | omega | exact Nat.le_of_ble_eq_true rfl | decide | (simp; omega)))) ?_)
    all_goals (first | refine JM.gskip rfl rfl rfl rfl rfl rfl rfl ?_ | refine JM.gskipU rfl rfl rfl rfl rfl rfl ?_ | refine JM.gquiet rfl rfl rfl rfl rfl rfl (fun m => y_loadN hT rfl rfl rfl (RdN.arr (i := (x - 1)) (Pick.app m (by (repeat (first | exact Pick.head | apply Pick.tail | apply Pick.app)))) hkE (by (first | assumption | omega | (simp only [Array.size_setIfInBounds]; omega))) (by exact arr_off rfl (by omega))) (by (first | rfl | assumption | exact hkE _ | simp))) ?_)
    all_goals (first | refine JM.gskip rfl rfl rfl rfl rfl rfl rfl ?_ | refine JM.gskipU rfl rfl rfl rfl rfl rfl ?_ | refine JM.gquiet rfl rfl rfl rfl rfl rfl (fun m => y_move rfl) ?_)
    all_goals (first | refine JM.gskip rfl rfl rfl rfl rfl rfl rfl ?_ | refine JM.gskipU rfl rfl rfl rfl rfl rfl ?_ | refine JM.gquiet rfl rfl rfl rfl rfl rfl (fun m => y_move rfl) ?_)
    all_goals (first | refine JM.gskip rfl rfl rfl rfl rfl rfl rfl ?_ | refine JM.gskipU rfl rfl rfl rfl rfl rfl ?_ | refine JM.gquiet rfl rfl rfl rfl rfl rfl (fun m => y_indexAddr_slice hT rfl rfl rfl rfl rfl (by (first | omega | exact Nat.le_of_ble_eq_true rfl | decide | (simp; omega))) (by (first | omega | exact Nat.le_of_ble_eq_true rfl | decide | (simp; omega)))) ?_)
    all_goals (first | refine JM.gskip rfl rfl rfl rfl rfl rfl rfl ?_ | refine JM.gskipU rfl rfl rfl rfl rfl rfl ?_ | refine JM.gquiet rfl rfl rfl rfl rfl rfl (fun m => y_loadN hT rfl rfl rfl (RdN.arr (i := (pv)) (Pick.app m (by (repeat (first | exact Pick.head | apply Pick.tail | apply Pick.app)))) hkE (by (first | assumption | omega | (simp only [Array.size_setIfInBounds]; omega))) (by exact arr_off rfl (by omega))) (by (first | rfl | assumption | exact hkE _ | simp))) ?_)
    all_goals (first | refine JM.gskip rfl rfl rfl rfl rfl rfl rfl ?_ | refine JM.gskipU rfl rfl rfl rfl rfl rfl ?_ | refine JM.gquiet rfl rfl rfl rfl rfl rfl (fun m => y_callV e38 rfl rfl (flowCmp E _ _ _)) ?_)
    all_goals (first | refine JM.gskip rfl rfl rfl rfl rfl rfl rfl ?_ | refine JM.gskipU rfl rfl rfl rfl rfl rfl ?_ | refine JM.gquiet rfl rfl rfl rfl rfl rfl (fun m => y_ltF E rfl rfl) ?_)
    all_goals (first | refine JM.gskip rfl rfl rfl rfl rfl rfl rfl ?_ | refine JM.gskipU rfl rfl rfl rfl rfl rfl ?_ | refine JM.gquiet rfl rfl rfl rfl rfl rfl (fun m => y_not rfl) ?_)
    all_goals refine JM.quiet rfl rfl rfl rfl (fun m => y_pick rfl rfl rfl) ?_
    all_goals refine JM.nil ?_
   all_goals refine JE.then_normal ?_
   all_goals
    first | apply J.cond_dec rfl | apply J.cond rfl
    case' ht =>
     intro h
     try (first | (exfalso; omega) | (cases h; done) | (exfalso; simp at h; done) | subst h)
     all_goals
      obtain ⟨q1, q2, q3, q4, q5⟩ := Sort.round_eq (mid := (Sort.partitionEqual ltF d3 x y pv).1) (d4 := (Sort.partitionEqual ltF d3 x y pv).2) hS (Sort.partitionEqual_holds _) hg hv1 hv2 (by omega) hB3 (by simpa using h) rfl
      refine J.seq (J.region (JL.step (y_move rfl) rfl rfl rfl (JL.step (y_move rfl) rfl rfl rfl (JL.step (y_move rfl) rfl rfl rfl (JL.step (y_move rfl) rfl rfl rfl (JL.step (y_move rfl) rfl rfl rfl ?_))))))
      refine JL.loud rfl (l_callF e93 rfl rfl (Fc.on (Split.cons (by (repeat (first | exact Pick.head | apply Pick.tail | apply Pick.app))) Split.nil) (partEqF E g c n x y pv _ _ _ d3 sp _ rfl rfl rfl hs3 hv1 hv2 (by omega) h63)) ?_)
      rintro _ _ ⟨rfl, rfl⟩
      refine JL.step (y_assign rfl) rfl rfl rfl ?_
      refine JL.nil (JE.then_normal (J.seq (J.region (JL.step (y_move rfl) rfl rfl rfl (JL.step (y_assign rfl) rfl rfl rfl ?_)))))
      refine JL.nil (JE.then_normal (J.exit (JE.then_exit (JE.block_exit ?_))))
      first
      | exact JE.round (s := (x, y, lm0, wb, wp, d1)) ((Sort.partitionEqual ltF d3 x y pv).1, y, lm, wb, wp, (Sort.partitionEqual ltF d3 x y pv).2) ⟨by dsimp only; omega, q2, hy, by dsimp only; rw [q3]; exact hs3, q4, fun R k1 k2 => hg1 R (Sort.permIn_trans _ _ _ _ _ hp3 (q5 R k1 k2).1) (q5 R k1 k2).2⟩ ⟨rfl, rfl, rfl, rfl, rfl, rfl, rfl, trivial⟩ (fun w h => h) (by dsimp only; omega)
      | exact JE.round (s := (x, y, lm0, wb, wp, d1)) (mid + 1, y, lm, _, ap, dl) ⟨by dsimp only; omega, by dsimp only; omega, hy, by dsimp only; rw [hl1.1, q3]; exact hs3, (q6 dl hl1 hl2).1, fun R k1 k2 => hg1 R (Sort.permIn_trans _ _ _ _ _ hp3 ((q6 dl hl1 hl2).2 R k1 k2).1) ((q6 dl hl1 hl2).2 R k1 k2).2⟩ ⟨rfl, (congrArg (fun z => some (Value.int .i64 z)) (by first | omega | (dsimp only; omega))), rfl, rfl, rfl, rfl, rfl, trivial⟩ (fun w h => h) (by dsimp only; omega)
      | exact JE.round (s := (x, y, lm0, wb, wp, d1)) (x, mid, lm, _, ap, dr) ⟨hx, q1, by dsimp only; omega, by dsimp only; rw [hr1.1, q3]; exact hs3, (q7 dr hr1 hr2).1, fun R k1 k2 => hg1 R (Sort.permIn_trans _ _ _ _ _ hp3 ((q7 dr hr1 hr2).2 R k1 k2).1) ((q7 dr hr1 hr2).2 R k1 k2).2⟩ ⟨rfl, rfl, rfl, rfl, rfl, rfl, rfl, trivial⟩ (fun w h => h) (by dsimp only; omega)
    case' hf =>
     intro h
     try (first | (exfalso; omega) | (cases h; done) | (exfalso; simp at h; done) | subst h)
     all_goals
      obtain ⟨q1, q2, q3, q4, q5, q6, q7⟩ := Sort.round_part (mid := (Sort.partition ltF d3 x y pv).1) (ap := (Sort.partition ltF d3 x y pv).2.1) (d4 := (Sort.partition ltF d3 x y pv).2.2) hS (Sort.partition_holds _) hv1 hv2 (by omega) hB3 rfl
      refine J.skip ?_
   all_goals refine JE.then_normal ?_
   all_goals
    refine J.seq (J.region (JL.step (y_move rfl) rfl rfl rfl (JL.step (y_move rfl) rfl rfl rfl (JL.step (y_move rfl) rfl rfl rfl (JL.step (y_move rfl) rfl rfl rfl (JL.step (y_move rfl) rfl rfl rfl ?_))))))
    refine JL.loud rfl (l_callF e94 rfl rfl (Fc.on (Split.cons (by (repeat (first | exact Pick.head | apply Pick.tail | apply Pick.app))) Split.nil) (partF E g c n x y pv _ _ _ d3 sp _ rfl rfl rfl hs3 hv1 hv2 (by omega) h63)) ?_)
    rintro _ _ ⟨rfl, rfl⟩
    refine JL.step (y_move rfl) rfl rfl rfl (JL.step (y_extract rfl rfl) rfl rfl rfl (JL.step (y_extract rfl rfl) rfl rfl rfl (JL.step (y_assign rfl) rfl rfl rfl (JL.step (y_assign rfl) rfl rfl rfl ?_))))
    refine JL.nil (JE.then_normal (J.seq (J.region ?_)))
    generalize (Sort.partition ltF d3 x y pv).1 = mid at *
    generalize (Sort.partition ltF d3 x y pv).2.1 = ap at *
    generalize (Sort.partition ltF d3 x y pv).2.2 = d4 at *
    refine JL.step (y_move rfl) rfl rfl rfl (JL.step (y_assign rfl) rfl rfl rfl ?_)
    refine JL.nil (JE.then_normal (J.seq (J.region (JL.step (y_move rfl) rfl rfl rfl (JL.step (y_move rfl) rfl rfl rfl ?_)))))
    refine JL.step (y_sub rfl rfl (by (first | exact wrap_i64 (by omega) (by omega) | rfl))) rfl rfl rfl ?_
    refine JL.step (y_move rfl) rfl rfl rfl (JL.step (y_move rfl) rfl rfl rfl ?_)
    refine JL.step (y_sub rfl rfl (by (first | exact wrap_i64 (by omega) (by omega) | rfl))) rfl rfl rfl ?_
    refine JL.step (y_assign rfl) rfl rfl rfl (JL.step (y_assign rfl) rfl rfl rfl ?_)
    refine JL.nil (JE.then_normal (J.seq (J.region (JL.step (y_move rfl) rfl rfl rfl ?_))))
    refine JL.step (y_quo rfl rfl (by decide) (quo_nat (x := y - x) (k := 8) rfl (by omega))) rfl rfl rfl ?_
    refine JL.step (y_assign rfl) rfl rfl rfl ?_
    refine JL.nil (JE.then_normal (J.seq (J.region (JL.step (y_move rfl) rfl rfl rfl (JL.step (y_move rfl) rfl rfl rfl (JL.step (y_lss rfl rfl) rfl rfl rfl ?_))))))
    refine JL.nil (JE.then_normal ?_)
    first | apply J.cond_dec rfl | apply J.cond rfl
    case' ht =>
     intro h
     try (first | (exfalso; omega) | (cases h; done) | (exfalso; simp at h; done) | subst h)
     all_goals
      refine J.seq (J.region (JL.step (y_move rfl) rfl rfl rfl (JL.step (y_move rfl) rfl rfl rfl (JL.step (y_geq rfl rfl) rfl rfl rfl (JL.step (y_assign rfl) rfl rfl rfl ?_)))))
      refine JL.nil (JE.then_normal (J.seq (J.region (JL.step (y_move rfl) rfl rfl rfl (JL.step (y_move rfl) rfl rfl rfl (JL.step (y_move rfl) rfl rfl rfl (JL.step (y_move rfl) rfl rfl rfl (JL.step (y_move rfl) rfl rfl rfl ?_))))))))
      refine JL.loud rfl (l_callF e73 rfl rfl (Fc.on (Split.cons (by (repeat (first | exact Pick.head | apply Pick.tail | apply Pick.app))) Split.nil) (ih (mid - x) (by omega) g c n x mid _ _ _ d4 sp _ (Nat.le_refl _) rfl rfl (by rw [q3]; exact hs3) q1 (by omega) q4 h63)) ?_)
      rintro _ _ ⟨rfl, dl, hl1, hl2, rfl⟩
      refine JL.nil (JE.then_normal (J.region (JL.step (y_move rfl) rfl rfl rfl ?_)))
      refine JL.step (y_add rfl rfl (by (first | exact wrap_i64 (by omega) (by omega) | rfl))) rfl rfl rfl ?_
      refine JL.step (y_assign rfl) rfl rfl rfl ?_
      refine JL.nil ?_
    case' hf =>
     intro h
     try (first | (exfalso; omega) | (cases h; done) | (exfalso; simp at h; done) | subst h)
     all_goals
      refine J.seq (J.region (JL.step (y_move rfl) rfl rfl rfl (JL.step (y_move rfl) rfl rfl rfl (JL.step (y_geq rfl rfl) rfl rfl rfl (JL.step (y_assign rfl) rfl rfl rfl ?_)))))
      refine JL.nil (JE.then_normal (J.seq (J.region (JL.step (y_move rfl) rfl rfl rfl (JL.step (y_move rfl) rfl rfl rfl ?_)))))
      refine JL.step (y_add rfl rfl (by (first | exact wrap_i64 (by omega) (by omega) | rfl))) rfl rfl rfl ?_
      refine JL.step (y_move rfl) rfl rfl rfl (JL.step (y_move rfl) rfl rfl rfl (JL.step (y_move rfl) rfl rfl rfl ?_))
      refine JL.loud rfl (l_callF e73 rfl rfl (Fc.on (Split.cons (by (repeat (first | exact Pick.head | apply Pick.tail | apply Pick.app))) Split.nil) (ih (y - (mid + 1)) (by omega) g c n (mid + 1) y _ _ _ d4 sp _ (Nat.le_refl _) (by omega) rfl (by rw [q3]; exact hs3) (by omega) (by omega) q5 h63)) ?_)
      rintro _ _ ⟨rfl, dr, hr1, hr2, rfl⟩
      refine JL.nil (JE.then_normal (J.region (JL.step (y_move rfl) rfl rfl rfl (JL.step (y_assign rfl) rfl rfl rfl ?_))))
      refine JL.nil ?_
 all_goals refine JE.block_normal ?_
 all_goals
  first
  | exact JE.round (s := (x, y, lm0, wb, wp, d1)) ((Sort.partitionEqual ltF d3 x y pv).1, y, lm, wb, wp, (Sort.partitionEqual ltF d3 x y pv).2) ⟨by dsimp only; omega, q2, hy, by dsimp only; rw [q3]; exact hs3, q4, fun R k1 k2 => hg1 R (Sort.permIn_trans _ _ _ _ _ hp3 (q5 R k1 k2).1) (q5 R k1 k2).2⟩ ⟨rfl, rfl, rfl, rfl, rfl, rfl, rfl, trivial⟩ (fun w h => h) (by dsimp only; omega)
  | exact JE.round (s := (x, y, lm0, wb, wp, d1)) (mid + 1, y, lm, _, ap, dl) ⟨by dsimp only; omega, by dsimp only; omega, hy, by dsimp only; rw [hl1.1, q3]; exact hs3, (q6 dl hl1 hl2).1, fun R k1 k2 => hg1 R (Sort.permIn_trans _ _ _ _ _ hp3 ((q6 dl hl1 hl2).2 R k1 k2).1) ((q6 dl hl1 hl2).2 R k1 k2).2⟩ ⟨rfl, (congrArg (fun z => some (Value.int .i64 z)) (by first | omega | (dsimp only; omega))), rfl, rfl, rfl, rfl, rfl, trivial⟩ (fun w h => h) (by dsimp only; omega)
  | exact JE.round (s := (x, y, lm0, wb, wp, d1)) (x, mid, lm, _, ap, dr) ⟨hx, q1, by dsimp only; omega, by dsimp only; rw [hr1.1, q3]; exact hs3, (q7 dr hr1 hr2).1, fun R k1 k2 => hg1 R (Sort.permIn_trans _ _ _ _ _ hp3 ((q7 dr hr1 hr2).2 R k1 k2).1) ((q7 dr hr1 hr2).2 R k1 k2).2⟩ ⟨rfl, rfl, rfl, rfl, rfl, rfl, rfl, trivial⟩ (fun w h => h) (by dsimp only; omega)
end
end
section
open Go Go.SL
section
attribute [local irreducible] J JL JE JM LS Y Fc RV Code.wp wpList Code.wpIn wpListIn
attribute [local irreducible] Yc
attribute [local irreducible] ltF cmpF
variable (E : World)
theorem insNilF (r : List HProp) : Fc prog E 87 [.slice none 0 0, .int .i64 0, .int .i64 0, (Value.func (.func 38) #[] [].toArray)].toArray r (fun v l' => v = .tuple #[] ∧ l' = r) := by
 refine Fc.of_body (c := ?codeC) Tryd.func87 ?hb Tryd.ntmps87 ?hl ?_
 case hb => exact rfl
 case hl => exact rfl
 refine J.seq (J.region (JL.step (y_move rfl) rfl rfl rfl ?_))
 refine JL.step (y_add rfl rfl (by (first | exact wrap_i64 (by omega) (by omega) | rfl))) rfl rfl rfl ?_
 refine JL.step (y_assign rfl) rfl rfl rfl ?_
 refine JL.nil (JE.then_normal (J.block ?_))
 refine J.loop (α := Unit) (fun _ => True) (fun _ => [(2, .int .i64 0), (8, .int .i64 1)]) (fun _ => r) (fun _ => 0) () trivial ⟨rfl, rfl, trivial⟩ (fun w h => h) ?_
 rintro _ _
 refine J.seq (J.seq (J.region (JL.step (y_move rfl) rfl rfl rfl (JL.step (y_move rfl) rfl rfl rfl (JL.step (y_lss rfl rfl) rfl rfl rfl ?_)))))
 refine JL.nil (JE.then_normal ?_)
 refine J.cond_f rfl (by (first | rfl | assumption | (simp; done) | (simp; omega))) ?_
 refine J.exit (JE.then_exit (JE.then_exit (JE.block_exit ?_)))
 refine JE.ret0 (.inr rfl) rfl rfl  ?_
 exact ⟨rfl, rfl⟩
theorem pdqNilF (lim : Int) (r : List HProp) : Fc prog E 73 [.slice none 0 0, .int .i64 0, .int .i64 0, .int .i64 lim, (Value.func (.func 38) #[] [].toArray)].toArray r (fun v l' => v = .tuple #[] ∧ l' = r) := by
 refine Fc.of_body (c := ?codeC) Tryd.func73 ?hb Tryd.ntmps73 ?hl ?_
 case hb => exact rfl
 case hl => exact rfl
 refine J.seq (J.region (JL.step (y_assign rfl) rfl rfl rfl ?_))
 refine JL.nil (JE.then_normal (J.seq (J.region (JL.step (y_assign rfl) rfl rfl rfl ?_))))
 refine JL.nil (JE.then_normal (J.block ?_))
 refine J.loop (α := Unit) (fun _ => True) (fun _ => [(0, .slice none 0 0), (1, .int .i64 0), (2, .int .i64 0), (4, (Value.func (.func 38) #[] [].toArray))]) (fun _ => r) (fun _ => 0) () trivial ⟨rfl, rfl, rfl, rfl, trivial⟩ (fun w h => h) ?_
 rintro _ _
 refine J.block (J.seq (J.region (JL.step (y_move rfl) rfl rfl rfl (JL.step (y_move rfl) rfl rfl rfl ?_))))
 refine JL.step (y_sub rfl rfl (by (first | exact wrap_i64 (by omega) (by omega) | rfl))) rfl rfl rfl ?_
 refine JL.step (y_assign rfl) rfl rfl rfl ?_
 refine JL.nil (JE.then_normal (J.seq (J.seq (J.region (JL.step (y_move rfl) rfl rfl rfl (JL.step (y_leq rfl rfl) rfl rfl rfl ?_))))))
 refine JL.nil (JE.then_normal ?_)
 refine J.cond_t rfl (by (first | rfl | assumption | (simp; done) | (simp; omega))) ?_
 refine J.seq (J.region (JL.step (y_move rfl) rfl rfl rfl (JL.step (y_move rfl) rfl rfl rfl (JL.step (y_move rfl) rfl rfl rfl (JL.step (y_move rfl) rfl rfl rfl ?_)))))
 refine JL.loud rfl (l_callF e87 rfl rfl (insNilF E _) ?_)
 rintro _ _ ⟨rfl, rfl⟩
 refine JL.nil (JE.then_normal (J.ret (JE.then_ret (JE.block_ret (JE.then_ret (JE.block_ret ?_))))))
 refine JE.ret0 (.inl rfl) rfl rfl  ?_
 exact ⟨rfl, rfl⟩
theorem sortNilF (r : List HProp) : Fc prog E 60 [.slice none 0 0, (Value.func (.func 38) #[] [].toArray)].toArray r (fun v l' => v = .tuple #[] ∧ l' = r) := by
 refine Fc.of_body (c := ?codeC) Tryd.func60 ?hb Tryd.ntmps60 ?hl ?_
 case hb => exact rfl
 case hl => exact rfl
 refine J.seq (J.region (JL.step (y_move rfl) rfl rfl rfl (JL.step (y_len_slice hT rfl rfl rfl) rfl rfl rfl (JL.step (y_assign rfl) rfl rfl rfl ?_))))
 refine JL.nil (JE.then_normal (J.region (JL.step (y_move rfl) rfl rfl rfl (JL.step (y_move rfl) rfl rfl rfl (JL.step (y_move rfl) rfl rfl rfl ?_)))))
 refine JL.step (y_conv (m := 0) hT rfl rfl rfl rfl rfl) rfl rfl rfl ?_
 refine JL.loud rfl (l_callF e74 rfl rfl (lenU E _ 0 _ rfl (by omega)) ?_)
 rintro _ _ ⟨k, rfl, _, _, rfl⟩
 refine JL.step (y_move rfl) rfl rfl rfl ?_
 refine JL.loud rfl (l_callF e73 rfl rfl (pdqNilF E _ _) ?_)
 rintro _ _ ⟨rfl, rfl⟩
 refine JL.nil ?_
 all_goals
  refine JE.ret0 (.inr rfl) rfl rfl  ?_
  exact ⟨rfl, rfl⟩
theorem sortRowF (hS : Sort.SWO ltF) (g c n : Nat) (d : Array FlowT) (sp : List Value) (r : List HProp) (hn : d.size = n) (h63 : n < 4611686018427387904) :
 Fc prog E 60 [.slice (some ⟨g, 0, none⟩) n c, (Value.func (.func 38) #[] [].toArray)].toArray (arF g d sp :: r) (fun v l' => v = .tuple #[] ∧ ∃ d', Sort.PermIn 0 n d d' ∧ Sort.SortedIn ltF 0 n d' ∧ l' = arF g d' sp :: r) := by
 refine Fc.post ?_
 refine Fc.of_body (c := ?codeC) Tryd.func60 ?hb Tryd.ntmps60 ?hl ?_
 case hb => exact rfl
 case hl => exact rfl
 refine J.seq (J.region (JL.step (y_move rfl) rfl rfl rfl (JL.step (y_len_slice hT rfl rfl rfl) rfl rfl rfl (JL.step (y_assign rfl) rfl rfl rfl ?_))))
 refine JL.nil (JE.then_normal (J.region (JL.step (y_move rfl) rfl rfl rfl (JL.step (y_move rfl) rfl rfl rfl (JL.step (y_move rfl) rfl rfl rfl ?_)))))
 refine JL.step (y_conv (m := (n : Int)) hT rfl rfl rfl rfl (wrap_u64n (by omega))) rfl rfl rfl ?_
 refine JL.loud rfl (l_callF e74 rfl rfl (lenU E _ n _ rfl (by omega)) ?_)
 rintro _ _ ⟨k, rfl, _, _, rfl⟩
 refine JL.step (y_move rfl) rfl rfl rfl ?_
 refine JL.loud rfl (l_callF e73 rfl rfl (Fc.on (Split.cons (by (repeat (first | exact Pick.head | apply Pick.tail | apply Pick.app))) Split.nil) (pdqF E hS (n - 0) g c n 0 n _ _ _ d sp _ (Nat.le_refl _) rfl rfl hn (Nat.zero_le _) (Nat.le_refl _) (.inl rfl) h63)) ?_)
 rintro _ _ ⟨rfl, d2, h1, h2, rfl⟩
 refine JL.nil ?_
 all_goals
  refine JE.ret0 (.inr rfl) rfl rfl  ?_
  exact ⟨_, fun w h => h, rfl, d2, h1, h2, rfl⟩
theorem sortF (hS : Sort.SWO ltF) (n : Nat) (v : Value) (zs : List FlowT) (r : List HProp) (hz : zs.length = n) (h63 : n < 4611686018427387904) :
 Fc prog E 60 [v, (Value.func (.func 38) #[] [].toArray)].toArray (own 29 4 v n (zs.flatMap flE) :: r) (fun u l' => u = .tuple #[] ∧ ∃ ys : List FlowT, ys.Perm zs ∧ (ys.Pairwise fun x y => ltF y x = false) ∧ l' = own 29 4 v n (ys.flatMap flE) :: r) := by
 refine Fc.owns (fun e1 e2 e3 => ?_) (fun g cap sp e1 h1 h2 h3 h4 => ?_)
 · subst e1 e2
   obtain rfl : zs = [] := List.eq_nil_of_length_eq_zero hz
   exact Fc.post ((sortNilF E r).mono fun u l' ⟨a, b⟩ => ⟨own 29 4 (.slice none 0 0) 0 [] :: r, fun w h => Sat.own_nil (b ▸ h), a, [], List.Perm.refl _, List.Pairwise.nil, rfl⟩)
 · subst e1
   have hd : zs.toArray.size = n := by simpa using hz
   refine Fc.post (((sortRowF E hS g cap n zs.toArray sp r hd h63).imp fun w s => ?_).mono fun u l' ⟨a, d', p1, p2, b⟩ => ?_)
   · exact s
   · have hl : d'.toList.length = n := by rw [Array.length_toList, p1.1]; exact hd
     have hf : ∀ zs : List FlowT, (zs.flatMap flE).length = zs.length * 4 := fun zs => seg_len fun x _ => hkE x
     refine ⟨own 29 4 (.slice (some ⟨g, 0, none⟩) n cap) n (d'.toList.flatMap flE) :: r, fun w h => ?_, a, d'.toList, perm_in hd p1, sorted_in (p1.1.trans hd) p2, rfl⟩
     have s : Sat E (stars (row g 29 (d'.toList.flatMap flE ++ sp) :: r)) w := by
      rw [b] at h
      exact h
     refine s.owned h1 h2 (by rw [hf, hl]) ?_
     rw [List.length_append, hf] at h4 ⊢
     rw [hl]
     omega
end
end
section
open Go Go.SL
section
def wayV (q : Int × Int) : List Value := [.int .i64 q.1, .int .i64 q.2]
def wayK (q : Int × Int) : Value := .agg (wayV q).toArray
theorem keyWay : KeyOk prog 75 wayK (fun _ => True) :=
 keyFlat hT (n := 2) (ks := [.int .i64, .int .i64]) (by kernel_rfl) rfl (by kernel_rfl) rfl rfl (fun a _ => ⟨⟨a.1, rfl⟩, ⟨a.2, rfl⟩, trivial⟩) (fun a b _ _ h => by
  simp only [wayV, List.cons.injEq, Value.int.injEq, true_and, and_true] at h
  exact Prod.ext h.1 h.2)
def fmE (fs : List FlowT) : List ((Int × Int) × Value) := fs.map fun f => ((f.1, f.2.1), .agg (flE f).toArray)
theorem fmE_length (fs : List FlowT) : (fmE fs).length = fs.length := by unfold fmE; rw [List.length_map]
theorem fmE_split {fs : List FlowT} {r1 r2 : List ((Int × Int) × Value)} {a : Int × Int} {v : Value} (h : fmE fs = r1 ++ (a, v) :: r2) : ∃ q1 f q2, fs = q1 ++ f :: q2 ∧ r1 ++ r2 = fmE (q1 ++ q2) ∧ a = (f.1, f.2.1) ∧ v = .agg (flE f).toArray := by
 unfold fmE at h
 obtain ⟨q1, q', h1, h2, h3⟩ := List.map_eq_append_iff.1 h
 obtain ⟨f, q2, h4, h5, h6⟩ := List.map_eq_cons_iff.1 h3
 simp only [Prod.mk.injEq] at h5
 exact ⟨q1, f, q2, by rw [h1, h4], by unfold fmE; rw [List.map_append, h2, h6], h5.1.symm, h5.2.symm⟩
end
section
attribute [local irreducible] J JL JE JM LS Y Fc RV Code.wp wpList Code.wpIn wpListIn
attribute [local irreducible] Yc
variable (E : World)
abbrev flowMap (b mp : Nat) (fs : List FlowT) (l : List HProp) : List HProp := row b 73 [.map (some mp)] :: mapA wayK (fun _ => True) mp (fmE fs) :: l
theorem mvalF_spec (l : List HProp) (v : Value) (hv : v.oneCell' = true) : Fc prog E 37 [v].toArray l (fun u l' => ∃ b, u = .func (.func 61) #[] [Value.pointer (some ⟨b, 0, none⟩)].toArray ∧ l' = row b 73 [v] :: l) := by
 have hvc : v.cells = [v].toArray := by cases v <;> simp_all [Value.cells, Value.oneCell']
 refine Fc.of_body (c := ?codeC) Tryd.func37 ?hb Tryd.ntmps37 ?hl ?_
 case hb => exact rfl
 case hl => exact rfl
 refine J.seq (J.region ?_)
 refine JL.loud rfl (l_box rfl hvc rfl (fun b1 => ?_))
 refine JL.step (y_assign rfl) rfl rfl rfl ?_
 refine JL.nil (JE.then_normal (J.seq (J.region (JL.step (y_makeFunc rfl rfl) rfl rfl rfl (JL.step (y_assign rfl) rfl rfl rfl ?_)))))
 refine JL.nil (JE.then_normal (J.ret ?_))
 refine JE.ret1 (.inl rfl) rfl rfl (by (first | exact RV.tmp rfl | exact RV.cell1 hT rfl rfl rfl (by (exact Rd1.row (by (repeat (first | exact Pick.head | apply Pick.tail | apply Pick.app))) (by rfl))) | exact RV.cellN hT rfl rfl rfl (by (first | exact RdN.rowAll (by (repeat (first | exact Pick.head | apply Pick.tail | apply Pick.app))) | exact RdN.own (by (repeat (first | exact Pick.head | apply Pick.tail | apply Pick.app))))) (by (first | rfl | assumption | (simp; done) | omega)))) ?_
 exact ⟨b1, rfl, rfl⟩
theorem mvalF_each (k b mp : Nat) (fs : List FlowT) (St : List FlowT → List HProp) (l : List HProp)
 (hy : ∀ (fr : List HProp) (vs : List FlowT) (f : FlowT), vs.length < fs.length → Yc prog E k [.agg (flE f).toArray].toArray (St vs ++ fr) (fun v l' => v = .bool true ∧ l' = St (vs ++ [f]) ++ fr)) :
 Fc prog E 61 [.func (.yield k) #[] #[], Value.pointer (some ⟨b, 0, none⟩)].toArray (flowMap b mp fs (St [] ++ l))
  (fun _ l' => ∃ vs : List FlowT, vs.Perm fs ∧ l' = flowMap b mp fs (St vs ++ l)) := by
 refine Fc.post ?_
 refine Fc.of_body (c := ?codeC) Tryd.func61 ?hb Tryd.ntmps61 ?hl ?_
 case hb => exact rfl
 case hl => exact rfl
 refine J.seq (J.region ?_)
 refine JL.step (y_load1 hT rfl rfl rfl (by (exact Rd1.row (by (repeat (first | exact Pick.head | apply Pick.tail | apply Pick.app))) (by rfl)))) rfl rfl rfl ?_
 refine JL.loud rfl (l_rangeMap hT rfl rfl rfl (by (repeat (first | exact Pick.head | apply Pick.tail | apply Pick.app))) rfl (fun it => ?_))
 refine JL.nil (JE.then_normal (J.block ?_))
 refine J.loop (α := List FlowT × List FlowT × Option ((Int × Int) × Value)) (fun s => (s.1 ++ s.2.1).Perm fs) (fun s => [(0, .func (.yield k) #[] #[]), (1, .pointer (some ⟨b, 0, none⟩)), (6, .pointer (some ⟨it, 0, none⟩))]) (fun s => St s.1 ++ (mapIt wayK (fun _ => True) mp it (fmE fs) (fmE s.2.1) s.2.2 :: row b 73 [.map (some mp)] :: l)) (fun s => s.2.1.length) ([], fs, none) (by simp) ⟨rfl, rfl, rfl, trivial⟩ (fun w h => Sat.rot (p := [_, _]) (g := St []) h) ?_
 rintro ⟨vs, rest, cur⟩ hp
 dsimp only at hp ⊢
 refine J.seq (J.region ?_)
 refine JL.loud rfl (l_nextMap rfl (by (repeat (first | exact Pick.head | apply Pick.tail | apply Pick.app))) rfl (fun h0 => ?_) (fun r1 a v r2 he ha => ?_))
 all_goals (refine JL.step (y_extract rfl rfl) rfl rfl rfl ?_)
 all_goals refine JL.nil (JE.then_normal ?_)
 all_goals
  refine J.seq ?_
  first | apply J.cond_dec rfl | apply J.cond rfl
  case' ht =>
   intro h
   try (first | (exfalso; omega) | (cases h; done) | (exfalso; simp at h; done) | subst h)
   all_goals
    refine J.skip ?_
  case' hf =>
   intro h
   try (first | (exfalso; omega) | (cases h; done) | (exfalso; simp at h; done) | subst h)
   all_goals
    refine J.exit (JE.then_exit (JE.then_exit (JE.block_exit ?_)))
    refine JE.ret0 (.inr rfl) rfl rfl  ?_
    refine ⟨_, fun w h => ?_, vs, by rw [show rest = [] from List.eq_nil_of_length_eq_zero (by rw [← fmE_length, h0]; rfl)] at hp; simpa using hp, rfl⟩
    have s1 := Sat.rot (p := [_]) (g := St vs) h.it_end
    have s2 := Sat.rot (p := St vs) (g := [mapA wayK (fun _ => True) mp (fmE fs), row b 73 [.map (some mp)]]) s1
    exact s2.sup (by (repeat (first | exact Sup.refl | apply Sup.cons (by (repeat (first | exact Pick.head | apply Pick.tail | apply Pick.app))) | apply Sup.app | apply Sup.skip | apply Sup.skips)))
  all_goals refine JE.then_normal ?_
  all_goals
   refine J.block (J.seq ?_)
   obtain ⟨q1, f, q2, rfl, he2, rfl, rfl⟩ := fmE_split he
   refine J.region ?_
   refine JL.step (y_entry rfl (by (repeat (first | exact Pick.head | apply Pick.tail | apply Pick.app)))) rfl rfl rfl ?_
   refine JL.step (y_extract rfl rfl) rfl rfl rfl ?_
   refine JL.loud rfl (l_alloc hT rfl rfl (by (first | rfl | simp)) rfl (fun b1 => ?_))
   refine JL.loud rfl (l_storeAll hT rfl rfl rfl (by (first | rfl | assumption | (simp; done) | omega)) (by (first | assumption | exact ones_of rfl | exact encW_one _ | exact encB_one _ | (intro u hu; simp at hu; rcases hu with rfl | rfl <;> rfl) | (intro u hu; simp at hu; subst hu; rfl) | simp)) (by (repeat (first | exact Pick.head | apply Pick.tail | apply Pick.app))) (by (first | rfl | assumption | (simp; done) | omega)) ?_)
   refine JL.nil (JE.then_normal (J.seq (J.region ?_)))
   have hlen : vs.length < fs.length := by
    have := hp.length_eq
    simp at this
    omega
   refine JL.step (y_move rfl) rfl rfl rfl ?_
   refine JL.step (y_loadN hT rfl rfl rfl (by (first | exact RdN.rowAll (by (repeat (first | exact Pick.head | apply Pick.tail | apply Pick.app))) | exact RdN.own (by (repeat (first | exact Pick.head | apply Pick.tail | apply Pick.app))))) (by (first | rfl | assumption | (simp; done) | omega))) rfl rfl rfl ?_
   refine JL.yield rfl rfl rfl (Yc.imp (hy _ vs f hlen) (fun w h => Sat.rot (p := [_, _]) (g := St vs) h)) ?_
   rintro _ _ ⟨rfl, rfl⟩
   all_goals (refine JL.step (y_not rfl) rfl rfl rfl ?_)
   all_goals refine JL.nil (JE.then_normal ?_)
   all_goals
    refine J.cond_f rfl (by (first | rfl | assumption | (simp; done) | (simp; omega))) ?_
    refine J.skip ?_
   all_goals refine JE.block_normal ?_
 all_goals
  exact JE.round (s := (vs, q1 ++ f :: q2, cur)) (vs ++ [f], q1 ++ q2, some ((f.1, f.2.1), .agg (flE f).toArray)) (by
   dsimp only
   refine List.Perm.trans ?_ hp
   simp only [List.append_assoc, List.cons_append, List.nil_append]
   exact List.Perm.append_left vs List.perm_middle.symm) ⟨rfl, rfl, rfl, trivial⟩ (fun w h => by rw [← he2]; exact h.sup (by (repeat (first | exact Sup.refl | apply Sup.cons (by (repeat (first | exact Pick.head | apply Pick.tail | apply Pick.app))) | apply Sup.app | apply Sup.skip | apply Sup.skips)))) (by dsimp only; simp)
def flowsM (bo : Nat) (vs : List FlowT) : HProp := pk fun q : Option Addr × Nat => [row bo 26 [.slice q.1 vs.length q.2], own 29 4 (.slice q.1 vs.length q.2) vs.length (vs.flatMap flE)]
theorem aseqF (b mp : Nat) (fs : List FlowT) (l : List HProp) (hm : fs.length ≤ 1000000) :
 Fc prog E 72 [.slice none 0 0, .func (.func 61) #[] [Value.pointer (some ⟨b, 0, none⟩)].toArray].toArray (flowMap b mp fs l)
  (fun v l' => ∃ (vs : List FlowT) (a : Option Addr) (c : Nat), vs.Perm fs ∧ v = .slice a vs.length c ∧ l' = own 29 4 v vs.length (vs.flatMap flE) :: flowMap b mp fs l) := by
 refine Fc.post ?_
 refine Fc.of_bodyM (c := ?codeC) Tryd.func72 ?hb Tryd.ntmps72 ?hl ?_
 case hb => exact rfl
 case hl => exact rfl
 refine J.seq (J.region ?_)
 refine JL.loud rfl (l_box rfl (by (first | rfl | simp)) rfl (fun b1 => ?_))
 refine JL.step (y_assign rfl) rfl rfl rfl ?_
 refine JL.nil (JE.then_normal (J.seq (J.seq (J.region (JL.step (y_move rfl) rfl rfl rfl ?_)))))
 refine JL.nil (JE.then_normal (J.block ?_))
 refine J.rangeFunc e61 rfl fun fn a0 k DD K hK hf0 => ?_
 refine Fc.mono (Fc.imp (mvalF_each E k b mp fs (fun vs => [flowsM b1 vs, K .ready none, blk DD (.deferred (some []))]) l (fun fr vs a hlt => ?hy)) ?hi) ?hm
 case hi =>
  intro w s
  have s2 := s.own_nil (e := 29) (size := 4)
  have s3 := s2.divide (p := [row b1 26 [.slice none 0 0], own 29 4 (.slice none 0 0) 0 []]) (Split.cons (by (repeat (first | exact Pick.head | apply Pick.tail | apply Pick.app))) (Split.cons (by (repeat (first | exact Pick.head | apply Pick.tail | apply Pick.app))) Split.nil))
  have s5 : Sat E (stars (flowsM b1 [] :: _)) w := s3.topk (none, 0)
  exact s5.sup (by (repeat (first | exact Sup.refl | apply Sup.cons (by (repeat (first | exact Pick.head | apply Pick.tail | apply Pick.app))) | apply Sup.app | apply Sup.skip | apply Sup.skips)))
 case hy =>
  unfold flowsM
  refine Yc.split (p := [pk _]) (Yc.pks fun q => ?_) (Split.cons Pick.head Split.nil)
  obtain ⟨qa, qc⟩ := q
  dsimp only
  refine Yc.split (p := [K .ready none]) ?_ (Split.cons (by (repeat (first | exact Pick.head | apply Pick.tail | apply Pick.app))) Split.nil)
  refine Yc.post ?_
  refine Yc.of_body hK hf0 rfl (by decide) ?_
  refine J.region ?_
  refine JL.loud rfl (l_alloc hT rfl rfl (by (first | rfl | simp)) rfl (fun b2 => ?_))
  refine JL.loud rfl (l_storeAll hT rfl rfl rfl (by (first | rfl | assumption | (simp; done) | omega)) (by (first | assumption | exact ones_of rfl | exact encW_one _ | exact encB_one _ | (intro u hu; simp at hu; rcases hu with rfl | rfl <;> rfl) | (intro u hu; simp at hu; subst hu; rfl) | simp)) (by (repeat (first | exact Pick.head | apply Pick.tail | apply Pick.app))) (by (first | rfl | assumption | (simp; done) | omega)) ?_)
  refine JL.nil ?_
  refine JE.assigned (by (repeat (first | exact Pick.head | apply Pick.tail | apply Pick.app))) ?_
  refine J.block (J.region ?_)
  refine JL.step (y_load1 hT rfl rfl rfl (by (exact Rd1.row (by (repeat (first | exact Pick.head | apply Pick.tail | apply Pick.app))) (by rfl)))) rfl rfl rfl ?_
  refine JL.step (y_loadN hT rfl rfl rfl (by (first | exact RdN.rowAll (by (repeat (first | exact Pick.head | apply Pick.tail | apply Pick.app))) | exact RdN.own (by (repeat (first | exact Pick.head | apply Pick.tail | apply Pick.app))))) (by (first | rfl | assumption | (simp; done) | omega))) rfl rfl rfl ?_
  refine JL.loud rfl (l_buildSliceP hT rfl rfl rfl rfl rfl rfl rfl (by (first | exact fill_one rfl (by first | assumption | rfl | (simp; done)) | rfl | simp)) rfl (fun b4 => ?_))
  refine JL.loud rfl (l_append hT rfl rfl rfl rfl rfl rfl rfl rfl (by (repeat (first | exact Pick.head | apply Pick.tail | apply Pick.app))) (by (first | exact RdN.rowAll (by (repeat (first | exact Pick.head | apply Pick.tail | apply Pick.app))) | exact RdN.own (by (repeat (first | exact Pick.head | apply Pick.tail | apply Pick.app))))) (by (first | rfl | assumption | (simp; done) | omega)) (hoE _) (by rw [show i29.bytes = 32 from rfl]; omega) (by omega) rfl (fun na nc hnc => ?_))
  refine JL.loud rfl (l_store1 hT rfl rfl rfl rfl rfl (by (repeat (first | exact Pick.head | apply Pick.tail | apply Pick.app))) (by (first | omega | exact Nat.le_of_ble_eq_true rfl | decide | (simp; omega))) ?_)
  refine JL.nil (JE.block_normal ?_)
  all_goals
   refine JE.round_on hK (by (repeat (first | exact Pick.head | apply Pick.tail | apply Pick.app))) ?_
   refine ⟨[flowsM b1 (vs ++ [a]), K .ready none, blk DD (.deferred (some []))] ++ fr, fun w q => ?_, rfl, rfl⟩
   have q1 := q.sup (p := row b1 26 [.slice na (vs.length + 1) nc] :: own 29 4 (.slice na (vs.length + 1) nc) (vs.length + 1) (vs.flatMap flE ++ flE a) :: K .ready none :: blk DD (.deferred (some [])) :: fr) (by (repeat (first | exact Sup.refl | apply Sup.cons (by (repeat (first | exact Pick.head | apply Pick.tail | apply Pick.app))) | apply Sup.app | apply Sup.skip | apply Sup.skips)))
   refine Sat.topk (F := fun q : Option Addr × Nat => [row b1 26 [.slice q.1 (vs ++ [a]).length q.2], own 29 4 (.slice q.1 (vs ++ [a]).length q.2) (vs ++ [a]).length ((vs ++ [a]).flatMap flE)]) (na, nc) ?_
   dsimp only
   rw [List.length_append, List.flatMap_append]
   simpa using q1
 case hm =>
  rintro _ _ ⟨vs, hvp, rfl⟩
  refine ⟨.ready, none, _, by (repeat (first | exact Pick.head | apply Pick.tail | apply Pick.app)), by simp, ?_⟩
  dsimp only
  unfold flowsM
  refine JE.picks (Pick.tail (Pick.tail Pick.head)) (JE.pks fun q => ?_)
  obtain ⟨qa, qc⟩ := q
  dsimp only
  refine JE.block_normal (JE.then_normal (J.seq (J.region ?_)))
  refine JL.step (y_load1 hT rfl rfl rfl (by (exact Rd1.row (by (repeat (first | exact Pick.head | apply Pick.tail | apply Pick.app))) (by rfl)))) rfl rfl rfl ?_
  refine JL.step (y_assign rfl) rfl rfl rfl ?_
  refine JL.nil (JE.then_normal (J.ret ?_))
  first | refine JE.unmark (.inl rfl) rfl (by (repeat (first | exact Pick.head | apply Pick.tail | apply Pick.app))) ?_ | refine JE.nomark (.inl rfl) rfl ?_
  refine JE.ret1 (.inl rfl) rfl rfl (by (first | exact RV.tmp rfl | exact RV.cell1 hT rfl rfl rfl (by (exact Rd1.row (by (repeat (first | exact Pick.head | apply Pick.tail | apply Pick.app))) (by rfl))) | exact RV.cellN hT rfl rfl rfl (by (first | exact RdN.rowAll (by (repeat (first | exact Pick.head | apply Pick.tail | apply Pick.app))) | exact RdN.own (by (repeat (first | exact Pick.head | apply Pick.tail | apply Pick.app))))) (by (first | rfl | assumption | (simp; done) | omega)))) ?_
  exact ⟨_, fun w h => h.sup (by (repeat (first | exact Sup.refl | apply Sup.cons (by (repeat (first | exact Pick.head | apply Pick.tail | apply Pick.app))) | apply Sup.app | apply Sup.skip | apply Sup.skips))), vs, qa, qc, hvp, rfl, rfl⟩
theorem collectF (b mp : Nat) (fs : List FlowT) (l : List HProp) (hm : fs.length ≤ 1000000) :
 Fc prog E 59 [.func (.func 61) #[] [Value.pointer (some ⟨b, 0, none⟩)].toArray].toArray (flowMap b mp fs l)
  (fun v l' => ∃ (vs : List FlowT) (a : Option Addr) (c : Nat), vs.Perm fs ∧ v = .slice a vs.length c ∧ l' = own 29 4 v vs.length (vs.flatMap flE) :: flowMap b mp fs l) := by
 refine Fc.post ?_
 refine Fc.of_body (c := ?codeC) Tryd.func59 ?hb Tryd.ntmps59 ?hl ?_
 case hb => exact rfl
 case hl => exact rfl
 refine J.seq (J.region (JL.step (y_assign rfl) rfl rfl rfl ?_))
 refine JL.nil (JE.then_normal (J.seq (J.region (JL.step (y_move rfl) rfl rfl rfl ?_))))
 refine JL.loud rfl (l_callF e72 rfl rfl (aseqF E b mp fs _ hm) ?_)
 rintro _ _ ⟨vs, a, c, h1, rfl, rfl⟩
 refine JL.step (y_assign rfl) rfl rfl rfl ?_
 refine JL.nil (JE.then_normal (J.ret ?_))
 refine JE.ret1 (.inl rfl) rfl rfl (by (first | exact RV.tmp rfl | exact RV.cell1 hT rfl rfl rfl (by (exact Rd1.row (by (repeat (first | exact Pick.head | apply Pick.tail | apply Pick.app))) (by rfl))) | exact RV.cellN hT rfl rfl rfl (by (first | exact RdN.rowAll (by (repeat (first | exact Pick.head | apply Pick.tail | apply Pick.app))) | exact RdN.own (by (repeat (first | exact Pick.head | apply Pick.tail | apply Pick.app))))) (by (first | rfl | assumption | (simp; done) | omega)))) ?_
 exact ⟨_, fun w h => h.sup (by (repeat (first | exact Sup.refl | apply Sup.cons (by (repeat (first | exact Pick.head | apply Pick.tail | apply Pick.app))) | apply Sup.app | apply Sup.skip | apply Sup.skips))), vs, a, c, h1, rfl, rfl⟩
theorem sortedF (b mp : Nat) (fs : List FlowT) (l : List HProp) (hm : fs.length ≤ 1000000) :
 Fc prog E 36 [.func (.func 61) #[] [Value.pointer (some ⟨b, 0, none⟩)].toArray, (Value.func (.func 38) #[] [].toArray)].toArray (flowMap b mp fs l)
  (fun v l' => ∃ (vs : List FlowT) (a : Option Addr) (c : Nat), vs.Perm fs ∧ (vs.Pairwise fun x y => ltF y x = false) ∧ v = .slice a vs.length c ∧ l' = own 29 4 v vs.length (vs.flatMap flE) :: flowMap b mp fs l) := by
 refine Fc.post ?_
 refine Fc.of_body (c := ?codeC) Tryd.func36 ?hb Tryd.ntmps36 ?hl ?_
 case hb => exact rfl
 case hl => exact rfl
 refine J.seq (J.region (JL.step (y_assign rfl) rfl rfl rfl ?_))
 refine JL.nil (JE.then_normal (J.seq (J.region (JL.step (y_move rfl) rfl rfl rfl ?_))))
 refine JL.loud rfl (l_callF e59 rfl rfl (collectF E b mp fs _ hm) ?_)
 rintro _ _ ⟨vs, a, c, h1, rfl, rfl⟩
 refine JL.step (y_assign rfl) rfl rfl rfl ?_
 refine JL.nil (JE.then_normal (J.seq (J.region ?_)))
 have hvl := h1.length_eq
 refine JL.step (y_move rfl) rfl rfl rfl (JL.step (y_move rfl) rfl rfl rfl ?_)
 refine JL.loud rfl (l_callF e60 rfl rfl (Fc.on (Split.cons (by (repeat (first | exact Pick.head | apply Pick.tail | apply Pick.app))) Split.nil) (sortF E swoF vs.length _ vs _ rfl (by omega))) ?_)
 rintro _ _ ⟨rfl, ys, h2, h3, rfl⟩
 refine JL.nil (JE.then_normal (J.seq (J.region (JL.step (y_move rfl) rfl rfl rfl (JL.step (y_assign rfl) rfl rfl rfl ?_)))))
 refine JL.nil (JE.then_normal (J.ret ?_))
 refine JE.ret1 (.inl rfl) rfl rfl (by (first | exact RV.tmp rfl | exact RV.cell1 hT rfl rfl rfl (by (exact Rd1.row (by (repeat (first | exact Pick.head | apply Pick.tail | apply Pick.app))) (by rfl))) | exact RV.cellN hT rfl rfl rfl (by (first | exact RdN.rowAll (by (repeat (first | exact Pick.head | apply Pick.tail | apply Pick.app))) | exact RdN.own (by (repeat (first | exact Pick.head | apply Pick.tail | apply Pick.app))))) (by (first | rfl | assumption | (simp; done) | omega)))) ?_
 rw [← h2.length_eq]
 exact ⟨_, fun w h => h.sup (by (repeat (first | exact Sup.refl | apply Sup.cons (by (repeat (first | exact Pick.head | apply Pick.tail | apply Pick.app))) | apply Sup.app | apply Sup.skip | apply Sup.skips))), ys, a, c, h2.trans h1, h3, rfl, rfl⟩
end
end
section
open Go Go.SL
section
def wr (x : Int) : Int := IntKind.i64.wrap x
def flook : List FlowT → Int × Int → FlowT
 | [], _ => (0, 0, 0, 0)
 | f :: r, k => if k = (f.1, f.2.1) then f else flook r k
def fput : List FlowT → WireT → List FlowT
 | [], w => [(w.2.1, w.2.2.1, wr (0 + w.2.2.2.1), wr (0 + w.2.2.2.2))]
 | f :: r, w => if (w.2.1, w.2.2.1) = (f.1, f.2.1) then (w.2.1, w.2.2.1, wr (f.2.2.1 + w.2.2.2.1), wr (f.2.2.2 + w.2.2.2.2)) :: r else f :: fput r w
theorem flook_eq : ∀ (fs : List FlowT) (k : Int × Int), lookV false (mlook (fmE fs) k) (.agg #[.int .i64 0, .int .i64 0, .int .i64 0, .int .i64 0]) = .agg (flE (flook fs k)).toArray
 | [], k => rfl
 | f :: r, k => by
   have ih := flook_eq r k
   unfold fmE at ih ⊢
   rw [List.map_cons, mlook, flook]
   by_cases h : k = (f.1, f.2.1)
   · rw [if_pos h, if_pos h]; rfl
   · rw [if_neg h, if_neg h]; exact ih
theorem fput_eq : ∀ (fs : List FlowT) (w : WireT), mput (fmE fs) (w.2.1, w.2.2.1) (.agg (flE (w.2.1, w.2.2.1, wr ((flook fs (w.2.1, w.2.2.1)).2.2.1 + w.2.2.2.1), wr ((flook fs (w.2.1, w.2.2.1)).2.2.2 + w.2.2.2.2))).toArray) = fmE (fput fs w)
 | [], w => rfl
 | f :: r, w => by
   have ih := fput_eq r w
   unfold fmE at ih ⊢
   rw [List.map_cons, mput, flook, fput]
   by_cases h : (w.2.1, w.2.2.1) = (f.1, f.2.1)
   · rw [if_pos h, if_pos h, if_pos h]; rfl
   · rw [if_neg h, if_neg h, if_neg h, ih]; rfl
theorem fput_length (fs : List FlowT) (w : WireT) : (fput fs w).length ≤ fs.length + 1 := by
 induction fs with
 | nil => simp [fput]
 | cons f r ih => unfold fput; split <;> simp only [List.length_cons] <;> omega
theorem fputs_length (ws : List WireT) (fs : List FlowT) : (ws.foldl fput fs).length ≤ fs.length + ws.length := by
 induction ws generalizing fs with
 | nil => simp
 | cons w r ih =>
   have := ih (fput fs w)
   have := fput_length fs w
   rw [List.foldl_cons, List.length_cons]; omega
theorem fputs_take {ws : List WireT} {i : Nat} {w : WireT} (h : ws[i]? = some w) (fs : List FlowT) : (ws.take (i + 1)).foldl fput fs = fput ((ws.take i).foldl fput fs) w := by
 rw [List.take_add_one, h, Option.toList_some, List.foldl_append]; rfl
theorem Y.val {P : Program} {E : World} {n : Nat} {ds : List Deferred} {env : Fr} {l : List HProp} {o : Oper} {v v' : Value} (h : Y P E n ds o env l v) (e : v = v') : Y P E n ds o env l v' := e ▸ h
end
section
attribute [local irreducible] J JL JE JM LS Y Fc RV Code.wp wpList Code.wpIn wpListIn
attribute [local irreducible] Yc
variable (E : World)
theorem flows_spec (p : Option Addr) (n c : Nat) (ws : List WireT) (l : List HProp) (hn : ws.length = n) (hn8 : n ≤ 1000) (hw : ∀ w ∈ ws, WiOk w) (hin : InL l p n c (ws.flatMap wiE)) :
 Fc prog E 16 [.slice p n c].toArray l (fun v l' => ∃ (vs : List FlowT) (a : Option Addr) (c' : Nat), vs.Perm (ws.foldl fput []) ∧ (vs.Pairwise fun x y => ltF y x = false) ∧ v = .slice a vs.length c' ∧ l' = own 29 4 v vs.length (vs.flatMap flE) :: l) := by
 refine Fc.post ?_
 refine Fc.of_body (c := ?codeC) Tryd.func16 ?hb Tryd.ntmps16 ?hl ?_
 case hb => exact rfl
 case hl => exact rfl
 refine J.seq (J.region (JL.step (y_assign rfl) rfl rfl rfl ?_))
 refine JL.nil (JE.then_normal (J.seq (J.region ?_)))
 refine JL.loud rfl (l_makeMap rfl (fun b1 => ?_))
 refine JL.step (y_assign rfl) rfl rfl rfl ?_
 refine JL.nil (JE.then_normal (J.seq (J.seq (J.region (JL.step (y_move rfl) rfl rfl rfl (JL.step (y_len_slice hT rfl rfl rfl) rfl rfl rfl (JL.step (y_move rfl) rfl rfl rfl ?_)))))))
 refine JL.nil (JE.then_normal (J.block ?_))
 refine J.pre (l' := mapA wayK (fun _ => True) b1 (fmE []) :: l) (fun w s => s.map_new (enc := wayK) (ok := fun _ => True)) ?_
 refine J.loop (α := Nat) (fun i => i ≤ n) (fun i => [(3, .map (some b1)), (9, .slice p n c), (10, .int .i64 n), (11, .int .i64 i)]) (fun i => mapA wayK (fun _ => True) b1 (fmE ((ws.take i).foldl fput [])) :: l) (fun i => n - i) 0 (Nat.zero_le _) ⟨rfl, rfl, rfl, rfl, trivial⟩ (fun w h => h) ?_
 intro i hi
 try dsimp only
 refine J.seq (J.region (JL.step (y_lss rfl rfl) rfl rfl rfl ?_))
 refine JL.nil (JE.then_normal (J.seq ?_))
 first | apply J.cond_dec rfl | apply J.cond rfl
 case' ht =>
  intro h
  try (first | (exfalso; omega) | (cases h; done) | (exfalso; simp at h; done) | subst h)
  all_goals
   refine J.skip ?_
 case' hf =>
  intro h
  try (first | (exfalso; omega) | (cases h; done) | (exfalso; simp at h; done) | subst h)
  all_goals
   refine J.exit (JE.then_exit (JE.then_exit (JE.block_exit (JE.then_normal (J.seq ?_)))))
   obtain rfl : i = n := by omega
   rw [List.take_of_length_le (by omega)]
   refine J.region (JL.step (y_move rfl) rfl rfl rfl ?_)
   refine JL.loud rfl (l_callF e37 rfl rfl (mvalF_spec E _ _ rfl) ?_)
   rintro _ _ ⟨b9, rfl, rfl⟩
   refine JL.loud rfl (l_callF e36 rfl rfl (sortedF E b9 b1 (ws.foldl fput []) l (by have := fputs_length ws []; simp at this; omega)) ?_)
   rintro _ _ ⟨vs, a, c', h1, h2, rfl, rfl⟩
   refine JL.step (y_assign rfl) rfl rfl rfl ?_
   refine JL.nil (JE.then_normal (J.ret ?_))
   refine JE.ret1 (.inl rfl) rfl rfl (by (first | exact RV.tmp rfl | exact RV.cell1 hT rfl rfl rfl (by (exact Rd1.row (by (repeat (first | exact Pick.head | apply Pick.tail | apply Pick.app))) (by rfl))) | exact RV.cellN hT rfl rfl rfl (by (first | exact RdN.rowAll (by (repeat (first | exact Pick.head | apply Pick.tail | apply Pick.app))) | exact RdN.own (by (repeat (first | exact Pick.head | apply Pick.tail | apply Pick.app))))) (by (first | rfl | assumption | (simp; done) | omega)))) ?_
   exact ⟨_, fun w h => h.sup (by (repeat (first | exact Sup.refl | apply Sup.cons (by (repeat (first | exact Pick.head | apply Pick.tail | apply Pick.app))) | apply Sup.app | apply Sup.skip | apply Sup.skips))), vs, a, c', h1, h2, rfl, rfl⟩
 all_goals refine JE.then_normal ?_
 all_goals
  refine J.seq (J.block (J.seq (J.region ?_)))
  have hlt : i < n := by omega
  obtain ⟨w, hh⟩ : ∃ w, ws[i]? = some w := ⟨ws[i]'(by omega), List.getElem?_eq_getElem _⟩
  have hst := fputs_take hh []
  have hwk := hw w (List.mem_of_getElem? hh)
  obtain ⟨fs, hfs⟩ : ∃ fs, (ws.take i).foldl fput [] = fs := ⟨_, rfl⟩
  rw [hfs] at hst ⊢
  obtain ⟨g, o, rfl, hr⟩ := hin.addr (by omega)
  refine JL.step (y_indexAddr_slice hT rfl rfl rfl rfl rfl (by (first | omega | exact Nat.le_of_ble_eq_true rfl | decide | (simp; omega))) (by (first | omega | exact Nat.le_of_ble_eq_true rfl | decide | (simp; omega)))) rfl rfl rfl ?_
  refine JL.step (y_loadN hT rfl rfl rfl (RdN.elem (hr [_]) (fun x _ => wiE_length x) hh) rfl) rfl rfl rfl ?_
  refine JL.loud rfl (l_alloc hT rfl rfl (by (first | rfl | simp)) rfl (fun b4 => ?_))
  refine JL.loud rfl (l_storeAll hT rfl rfl rfl (by (first | rfl | assumption | (simp; done) | omega)) (by (first | assumption | exact ones_of rfl | exact encW_one _ | exact encB_one _ | (intro u hu; simp at hu; rcases hu with rfl | rfl <;> rfl) | (intro u hu; simp at hu; subst hu; rfl) | simp)) (by (repeat (first | exact Pick.head | apply Pick.tail | apply Pick.app))) (by (first | rfl | assumption | (simp; done) | omega)) ?_)
  refine JL.nil (JE.then_normal (J.seq (J.region (JL.step (y_fieldAddr hT rfl rfl rfl rfl rfl rfl) rfl rfl rfl ?_))))
  refine JL.step (y_load1 hT rfl rfl rfl (by (exact Rd1.row (by (repeat (first | exact Pick.head | apply Pick.tail | apply Pick.app))) (by rfl)))) rfl rfl rfl ?_
  refine JL.step (y_fieldAddr hT rfl rfl rfl rfl rfl rfl) rfl rfl rfl ?_
  refine JL.step (y_load1 hT rfl rfl rfl (by (exact Rd1.row (by (repeat (first | exact Pick.head | apply Pick.tail | apply Pick.app))) (by rfl)))) rfl rfl rfl ?_
  refine JL.step (y_build (cs := [_, _]) hT rfl rfl rfl rfl rfl rfl ⟨⟨(by (first | rfl | assumption | (simp; done) | omega)), Nat.le_of_ble_eq_true rfl⟩, ⟨⟨(by (first | rfl | assumption | (simp; done) | omega)), Nat.le_of_ble_eq_true rfl⟩, trivial⟩⟩ rfl) rfl rfl rfl ?_
  refine JL.loud rfl (l_alloc hT rfl rfl (by (first | rfl | simp)) rfl (fun b6 => ?_))
  refine JL.loud rfl (l_storeAll hT rfl rfl rfl (by (first | rfl | assumption | (simp; done) | omega)) (by (first | assumption | exact ones_of rfl | exact encW_one _ | exact encB_one _ | (intro u hu; simp at hu; rcases hu with rfl | rfl <;> rfl) | (intro u hu; simp at hu; subst hu; rfl) | simp)) (by (repeat (first | exact Pick.head | apply Pick.tail | apply Pick.app))) (by (first | rfl | assumption | (simp; done) | omega)) ?_)
  refine JL.nil (JE.then_normal (J.seq (J.region (JL.step (y_move rfl) rfl rfl rfl ?_))))
  refine JL.step (y_loadN hT rfl rfl rfl (by (first | exact RdN.rowAll (by (repeat (first | exact Pick.head | apply Pick.tail | apply Pick.app))) | exact RdN.own (by (repeat (first | exact Pick.head | apply Pick.tail | apply Pick.app))))) (by (first | rfl | assumption | (simp; done) | omega))) rfl rfl rfl ?_
  refine JL.step (v := .agg (flE (flook fs (w.2.1, w.2.2.1))).toArray) (Y.val (y_lookup (a := (w.2.1, w.2.2.1)) hT rfl rfl rfl rfl keyWay rfl rfl rfl trivial (by (repeat (first | exact Pick.head | apply Pick.tail | apply Pick.app)))) (flook_eq fs _)) rfl rfl rfl ?_
  refine JL.loud rfl (l_alloc hT rfl rfl (by (first | rfl | simp)) rfl (fun b8 => ?_))
  refine JL.loud rfl (l_storeAll hT rfl rfl rfl (by (first | rfl | assumption | (simp; done) | omega)) (by (first | assumption | exact ones_of rfl | exact encW_one _ | exact encB_one _ | (intro u hu; simp at hu; rcases hu with rfl | rfl <;> rfl) | (intro u hu; simp at hu; subst hu; rfl) | simp)) (by (repeat (first | exact Pick.head | apply Pick.tail | apply Pick.app))) (by (first | rfl | assumption | (simp; done) | omega)) ?_)
  refine JL.nil (JE.then_normal (J.region (JL.step (y_move rfl) rfl rfl rfl ?_)))
  refine JL.step (y_loadN hT rfl rfl rfl (by (first | exact RdN.rowAll (by (repeat (first | exact Pick.head | apply Pick.tail | apply Pick.app))) | exact RdN.own (by (repeat (first | exact Pick.head | apply Pick.tail | apply Pick.app))))) (by (first | rfl | assumption | (simp; done) | omega))) rfl rfl rfl ?_
  refine JL.step (y_fieldAddr hT rfl rfl rfl rfl rfl rfl) rfl rfl rfl ?_
  refine JL.step (y_load1 hT rfl rfl rfl (by (exact Rd1.row (by (repeat (first | exact Pick.head | apply Pick.tail | apply Pick.app))) (by rfl)))) rfl rfl rfl ?_
  refine JL.step (y_fieldAddr hT rfl rfl rfl rfl rfl rfl) rfl rfl rfl ?_
  refine JL.step (y_load1 hT rfl rfl rfl (by (exact Rd1.row (by (repeat (first | exact Pick.head | apply Pick.tail | apply Pick.app))) (by rfl)))) rfl rfl rfl ?_
  refine JL.step (y_fieldAddr hT rfl rfl rfl rfl rfl rfl) rfl rfl rfl ?_
  refine JL.step (y_load1 hT rfl rfl rfl (by (exact Rd1.row (by (repeat (first | exact Pick.head | apply Pick.tail | apply Pick.app))) (by rfl)))) rfl rfl rfl ?_
  refine JL.step (y_fieldAddr hT rfl rfl rfl rfl rfl rfl) rfl rfl rfl ?_
  refine JL.step (y_load1 hT rfl rfl rfl (by (exact Rd1.row (by (repeat (first | exact Pick.head | apply Pick.tail | apply Pick.app))) (by rfl)))) rfl rfl rfl ?_
  refine JL.step (y_add (m := wr ((flook fs (w.2.1, w.2.2.1)).2.2.1 + w.2.2.2.1)) rfl rfl rfl) rfl rfl rfl ?_
  refine JL.step (y_fieldAddr hT rfl rfl rfl rfl rfl rfl) rfl rfl rfl ?_
  refine JL.step (y_load1 hT rfl rfl rfl (by (exact Rd1.row (by (repeat (first | exact Pick.head | apply Pick.tail | apply Pick.app))) (by rfl)))) rfl rfl rfl ?_
  refine JL.step (y_fieldAddr hT rfl rfl rfl rfl rfl rfl) rfl rfl rfl ?_
  refine JL.step (y_load1 hT rfl rfl rfl (by (exact Rd1.row (by (repeat (first | exact Pick.head | apply Pick.tail | apply Pick.app))) (by rfl)))) rfl rfl rfl ?_
  refine JL.step (y_add (m := wr ((flook fs (w.2.1, w.2.2.1)).2.2.2 + w.2.2.2.2)) rfl rfl rfl) rfl rfl rfl ?_
  refine JL.step (y_build (cs := [_, _, _, _]) hT rfl rfl rfl rfl rfl rfl ⟨⟨(by (first | rfl | assumption | (simp; done) | omega)), Nat.le_of_ble_eq_true rfl⟩, ⟨⟨(by (first | rfl | assumption | (simp; done) | omega)), Nat.le_of_ble_eq_true rfl⟩, ⟨⟨(by (first | rfl | assumption | (simp; done) | omega)), Nat.le_of_ble_eq_true rfl⟩, ⟨⟨(by (first | rfl | assumption | (simp; done) | omega)), Nat.le_of_ble_eq_true rfl⟩, trivial⟩⟩⟩⟩ rfl) rfl rfl rfl ?_
  refine JL.loud rfl (l_mapUpdate (a := (w.2.1, w.2.2.1)) hT rfl rfl keyWay rfl rfl rfl rfl trivial (by (repeat (first | exact Pick.head | apply Pick.tail | apply Pick.app))) ?_)
  refine JL.nil (JE.block_normal (JE.then_normal (J.region ?_)))
  refine JL.step (y_add rfl rfl (by (first | exact wrap_i64 (by omega) (by omega) | rfl))) rfl rfl rfl ?_
  refine JL.step (y_move rfl) rfl rfl rfl ?_
  refine JL.nil ?_
 all_goals
  exact JE.round (s := i) (i + 1) (by omega) ⟨rfl, rfl, rfl, rfl, trivial⟩ (fun w2 h => by
   rw [hst, ← fput_eq]
   exact h.sup (by (repeat (first | exact Sup.refl | apply Sup.cons (by (repeat (first | exact Pick.head | apply Pick.tail | apply Pick.app))) | apply Sup.app | apply Sup.skip | apply Sup.skips)))) (by omega)
end
end
section
open Go Go.SL
section
structure SealT where
 client : Int
 opened : Bool
 peer : List Int
 round : Int
 body : List Int
def seE (s : SealT) : List Value := .int .i64 s.client :: .bool s.opened :: (ints .u8 s.peer ++ .int .u64 s.round :: ints .u8 s.body)
structure SeOk (s : SealT) : Prop where
 peer : s.peer.length = 32
 body : s.body.length = 130
theorem seE_length {s : SealT} (h : SeOk s) : (seE s).length = 165 := by
 simp [seE, ints, h.peer, h.body]
theorem seE_one (s : SealT) : ∀ v ∈ seE s, v.oneCell' = true := by
 intro v hv
 simp only [seE, ints, List.mem_cons, List.mem_append, List.mem_map] at hv
 rcases hv with rfl | rfl | ⟨_, _, rfl⟩ | rfl | ⟨_, _, rfl⟩ <;> rfl
theorem seE_peer {s : SealT} (h : SeOk s) : ((seE s).drop 2).take 32 = ints .u8 s.peer := by
 simp only [seE, List.drop_succ_cons, List.drop_zero]
 rw [List.take_left' (by simp [ints, h.peer])]
theorem seE_round {s : SealT} (h : SeOk s) : (seE s)[34]? = some (.int .u64 s.round) := by
 simp only [seE, List.getElem?_cons_succ]
 rw [List.getElem?_append_right (by simp [ints, h.peer])]
 simp [ints, h.peer]
theorem seE_body {s : SealT} (h : SeOk s) : ((seE s).drop 35).take 130 = ints .u8 s.body := by
 have e : (ints .u8 s.peer).length = 32 := by simp [ints, h.peer]
 have e2 : (ints .u8 s.body).length = 130 := by simp [ints, h.body]
 simp only [seE, List.drop_succ_cons]
 rw [List.drop_append, List.drop_of_length_le (by omega), e]
 simp only [List.nil_append, Nat.reduceSub, List.drop_succ_cons, List.drop_zero]
 exact List.take_of_length_le (by omega)
theorem ints_one {k : IntKind} : ∀ {x y : List Int}, ints k x = ints k y → x = y
 | [], [], _ => rfl
 | [], b :: y, h => by simp [ints] at h
 | a :: x, [], h => by simp [ints] at h
 | a :: x, b :: y, h => by
   simp only [ints, List.map_cons, List.cons.injEq, Value.int.injEq, true_and] at h
   rw [h.1, ints_one (k := k) (x := x) (y := y) h.2]
abbrev LetT := List Int × List Int × Int × List Int
def leE (k : LetT) : List Value := ints .u8 k.1 ++ (ints .u8 k.2.1 ++ .int .u64 k.2.2.1 :: ints .u8 k.2.2.2)
def LeOk (k : LetT) : Prop := k.1.length = 32 ∧ k.2.1.length = 32 ∧ k.2.2.2.length = 130
def letK (k : LetT) : Value := .agg (leE k).toArray
theorem keyLet : KeyOk prog 115 letK LeOk :=
 keyFlat hT (n := 3) (ks := List.replicate 32 (.int .u8) ++ (List.replicate 32 (.int .u8) ++ .int .u64 :: List.replicate 130 (.int .u8))) (by kernel_rfl) rfl (by kernel_rfl) rfl rfl (fun a h => by
  have h1 := Fits.ints .u8 a.1
  have h2 := Fits.ints .u8 a.2.1
  have h3 := Fits.ints .u8 a.2.2.2
  rw [h.1] at h1
  rw [h.2.1] at h2
  rw [h.2.2] at h3
  exact h1.app (h2.app ⟨⟨_, rfl⟩, h3⟩)) (fun a b ha hb h => by
  obtain ⟨a1, a2, a3, a4⟩ := a
  obtain ⟨b1, b2, b3, b4⟩ := b
  have hinj : ∀ x y : List Int, ints .u8 x = ints .u8 y → x = y := fun x y q => ints_one q
  simp only [leE] at h
  obtain ⟨p1, p2⟩ := List.append_inj h (by simp [ints, ha.1, hb.1])
  obtain ⟨p3, p4⟩ := List.append_inj p2 (by simp [ints, ha.2.1, hb.2.1])
  simp only [List.cons.injEq, Value.int.injEq, true_and] at p4
  rw [hinj _ _ p1, hinj _ _ p3, p4.1, hinj _ _ p4.2])
def leM (L : List LetT) : List (LetT × Value) := L.map fun k => (k, .bool true)
theorem leM_look (L : List LetT) (k : LetT) : lookV false (mlook (leM L) k) (.bool false) = .bool (decide (k ∈ L)) := by
 induction L with
 | nil => simp [leM, mlook, lookV]
 | cons t L ih =>
   unfold leM at ih ⊢
   rw [List.map_cons, mlook]
   by_cases h : k = t
   · rw [if_pos h]; simp [lookV, h]
   · rw [if_neg h, ih]; simp [h]
def leAdd (L : List LetT) (k : LetT) : List LetT := if k ∈ L then L else L ++ [k]
theorem leM_put (L : List LetT) (k : LetT) : mput (leM L) k (.bool true) = leM (leAdd L k) := by
 induction L with
 | nil => simp [leM, mput, leAdd]
 | cons t L ih =>
   unfold leM at ih ⊢
   rw [List.map_cons, mput]
   by_cases h : k = t
   · subst h; rw [if_pos rfl]; simp [leAdd]
   · rw [if_neg h, ih]
     unfold leAdd
     by_cases h2 : k ∈ L
     · simp [h2]
     · simp [h, h2]
def keyOf (keys : List (List Int)) (c : Int) : Option (List Int) := if 0 ≤ c then keys[c.toNat]? else none
def readStep (keys : List (List Int)) (s : List LetT × List (Nat × SealT × Bool) × Nat) (x : SealT) : List LetT × List (Nat × SealT × Bool) × Nat :=
 match x.opened, keyOf keys x.client with
 | true, none => (s.1, s.2.1 ++ [(s.2.2, x, false)], s.2.2 + 1)
 | true, some k => (s.1, s.2.1 ++ [(s.2.2, x, decide ((x.peer, k, x.round, x.body) ∈ s.1))], s.2.2 + 1)
 | false, some k => (leAdd s.1 (k, x.peer, x.round, x.body), s.2.1, s.2.2 + 1)
 | false, none => (s.1, s.2.1, s.2.2 + 1)
def readF (keys : List (List Int)) (ls : List SealT) : List LetT × List (Nat × SealT × Bool) × Nat := ls.foldl (readStep keys) ([], [], 0)
theorem read_take {keys : List (List Int)} {ls : List SealT} {i : Nat} {x : SealT} (h : ls[i]? = some x) : readF keys (ls.take (i + 1)) = readStep keys (readF keys (ls.take i)) x := by
 unfold readF
 rw [List.take_add_one, h, Option.toList_some, List.foldl_append]; rfl
theorem read_count (keys : List (List Int)) (ls : List SealT) : (readF keys ls).2.2 = ls.length := by
 have h : ∀ (ls : List SealT) (s : List LetT × List (Nat × SealT × Bool) × Nat), (ls.foldl (readStep keys) s).2.2 = s.2.2 + ls.length := by
  intro ls
  induction ls with
  | nil => intro s; rfl
  | cons x r ih =>
    intro s
    rw [List.foldl_cons, ih, List.length_cons]
    have : (readStep keys s x).2.2 = s.2.2 + 1 := by unfold readStep; split <;> rfl
    omega
 unfold readF
 rw [h]; simp
theorem le_from {k : LetT} {a : List Int} (h : LeOk k) (ha : a.length = 32) : (leE k).take 0 ++ ints .u8 a ++ (leE k).drop (0 + (ints .u8 a).length) = leE (a, k.2) := by
 have e : (ints .u8 k.1).length = 32 := by simp [ints, h.1]
 have e2 : (ints .u8 a).length = 32 := by simp [ints, ha]
 simp only [leE, List.take_zero, List.nil_append, Nat.zero_add]
 rw [e2, List.drop_append, List.drop_of_length_le (by omega), e]
 simp
theorem le_to {k : LetT} {a : List Int} (h : LeOk k) (ha : a.length = 32) : (leE k).take 32 ++ ints .u8 a ++ (leE k).drop (32 + (ints .u8 a).length) = leE (k.1, a, k.2.2) := by
 have e : (ints .u8 k.1).length = 32 := by simp [ints, h.1]
 have e1 : (ints .u8 k.2.1).length = 32 := by simp [ints, h.2.1]
 have e2 : (ints .u8 a).length = 32 := by simp [ints, ha]
 simp only [leE]
 rw [e2, List.take_append_of_le_length (by omega), List.take_of_length_le (by omega), List.drop_append, List.drop_of_length_le (by omega), e, List.drop_append, List.drop_of_length_le (by omega), e1]
 simp
theorem leE_length {k : LetT} (h : LeOk k) : (leE k).length = 195 := by simp [leE, ints, h.1, h.2.1, h.2.2]
theorem leE_one (k : LetT) : ∀ v ∈ leE k, v.oneCell' = true := by
 intro v hv
 simp only [leE, ints, List.mem_cons, List.mem_append, List.mem_map] at hv
 rcases hv with ⟨_, _, rfl⟩ | ⟨_, _, rfl⟩ | rfl | ⟨_, _, rfl⟩ <;> rfl
theorem ones_u8' (xs : List Int) : ∀ u ∈ ints .u8 xs, u.oneCell' = true := by
 intro u hu
 obtain ⟨z, _, rfl⟩ := List.mem_map.1 hu
 rfl
theorem l_storeFrom {E : World} {n : Nat} {ds : List Deferred} {env : Fr} {l r : List HProp} {N : Fr → List HProp → Prop} {ty : TypeId} {pos : String} {af : Array Edge} {gd : Option (Nat × Bool)} {x y : Operand} {b o : Nat} {e : TypeId} {k : LetT} {a : List Int}
 (hx : val env x = some (.pointer (some ⟨b, o, none⟩))) (ho : o = 0) (hy : val env y = some (.agg (ints .u8 a).toArray)) (hk : LeOk k) (ha : a.length = 32) (hp : Pick l (row b e (leE k)) r) (h : N env (row b e (leE (a, k.2)) :: r)) :
 LS prog E n ds ⟨none, .store 50 x y, ty, pos, af, gd⟩ env l N := by
 subst ho
 exact l_storeN hT rfl hx hy (by simp [ints, ha]; rfl) (ones_u8' a) hp (by rw [leE_length hk]; simp [ints, ha]) (by rw [le_from hk ha]; exact h)
theorem l_storeTo {E : World} {n : Nat} {ds : List Deferred} {env : Fr} {l r : List HProp} {N : Fr → List HProp → Prop} {ty : TypeId} {pos : String} {af : Array Edge} {gd : Option (Nat × Bool)} {x y : Operand} {b o : Nat} {e : TypeId} {k : LetT} {a : List Int}
 (hx : val env x = some (.pointer (some ⟨b, o, none⟩))) (ho : o = 32) (hy : val env y = some (.agg (ints .u8 a).toArray)) (hk : LeOk k) (ha : a.length = 32) (hp : Pick l (row b e (leE k)) r) (h : N env (row b e (leE (k.1, a, k.2.2)) :: r)) :
 LS prog E n ds ⟨none, .store 50 x y, ty, pos, af, gd⟩ env l N := by
 subst ho
 exact l_storeN hT rfl hx hy (by simp [ints, ha]; rfl) (ones_u8' a) hp (by rw [leE_length hk]; simp [ints, ha]) (by rw [le_to hk ha]; exact h)
def le0 (r : Int) (b : List Int) : LetT := (List.replicate 32 0, List.replicate 32 0, r, b)
theorem le0_ok {r : Int} {b : List Int} (h : b.length = 130) : LeOk (le0 r b) := ⟨by simp [le0], by simp [le0], h⟩
theorem keyOf_some {keys : List (List Int)} {c : Int} {k : List Int} (h : keyOf keys c = some k) : 0 ≤ c ∧ c < keys.length ∧ keys[c.toNat]? = some k := by
 unfold keyOf at h
 split at h
 · refine ⟨by assumption, ?_, h⟩
   obtain ⟨h1, _⟩ := List.getElem?_eq_some_iff.1 h
   omega
 · cases h
theorem keyOf_isSome (keys : List (List Int)) (c : Int) : (keyOf keys c).isSome = decide (0 ≤ c ∧ c < keys.length) := by
 unfold keyOf
 by_cases h : 0 ≤ c
 · rw [if_pos h]
   by_cases h2 : c < keys.length
   · rw [List.getElem?_eq_getElem (by omega), decide_eq_true ⟨h, h2⟩]; rfl
   · rw [List.getElem?_eq_none (by omega), decide_eq_false (fun q => h2 q.2)]; rfl
 · rw [if_neg h, decide_eq_false (fun q => h q.1)]; rfl
end
end
section
open Go Go.SL
section
theorem fillok_let {r : Int} {b : List Int} (hb : b.length = 130) : fillOk [(0, 32), (32, 32), (64, 1), (65, 130)] 195 [(2, [Value.int .u64 r]), (3, ints .u8 b)] := ⟨⟨rfl, by decide⟩, ⟨by simp [ints, hb], by decide⟩, trivial⟩
set_option maxRecDepth 100000 in
theorem fill_let {zs : List Value} {r : Int} {b : List Int} (hz : zs.length = 195) (h64 : zs.take 64 = ints .u8 (List.replicate 32 0) ++ ints .u8 (List.replicate 32 0)) (hb : b.length = 130) :
 fillE [(0, 32), (32, 32), (64, 1), (65, 130)] zs [(2, [Value.int .u64 r]), (3, ints .u8 b)] = leE (le0 r b) := by
 have e : fillE [(0, 32), (32, 32), (64, 1), (65, 130)] zs [(2, [Value.int .u64 r]), (3, ints .u8 b)] = (zs.take 64 ++ [Value.int .u64 r] ++ zs.drop (64 + 1)).take 65 ++ ints .u8 b ++ (zs.take 64 ++ [Value.int .u64 r] ++ zs.drop (64 + 1)).drop (65 + 130) := rfl
 have e1 : (ints .u8 (List.replicate 32 0)).length = 32 := by simp [ints]
 rw [e, h64, List.take_left' (by simp [e1]), List.drop_of_length_le (by simp [e1, hz])]
 simp [leE, le0]
end
section
attribute [local irreducible] J JL JE JM LS Y Fc RV Code.wp wpList Code.wpIn wpListIn
attribute [local irreducible] Yc
variable (E : World)
theorem read_spec (fs : FuncId) (eF : Ent prog fs) (caps : List Value) (kp : Option Addr) (kn kc : Nat) (keys : List (List Int)) (lp : Option Addr) (n lc : Nat) (ls : List SealT) (A : List (Nat × SealT × Bool) → HProp) (l : List HProp)
 (hkn : keys.length = kn) (hk32 : ∀ k ∈ keys, k.length = 32) (hkin : InL l kp kn kc (keys.flatMap (ints .u8))) (hkm : kn ≤ 1000000)
 (hn : ls.length = n) (hn8 : n ≤ 1000000) (hok : ∀ x ∈ ls, SeOk x) (hin : InL l lp n lc (ls.flatMap seE))
 (hsee : ∀ (r : List HProp) (i : Nat) (x : SealT) (cv : Bool), ls[i]? = some x → (∃ m, r = m ++ l) → Fc prog E fs ([Value.int .i64 i, .agg (seE x).toArray, .bool cv] ++ caps).toArray (A (readF keys (ls.take i)).2.1 :: r) (fun v l' => v = .tuple #[] ∧ l' = A ((readF keys (ls.take i)).2.1 ++ [(i, x, cv)]) :: r)) :
 Fc prog E 44 [.slice kp kn kc, .slice lp n lc, .func (.func fs) #[] caps.toArray].toArray (A [] :: l) (fun v l' => v = .tuple #[] ∧ l' = A (readF keys ls).2.1 :: l) := by
 refine Fc.eqs ?_
 refine Fc.of_body (c := ?codeC) Tryd.func44 ?hb Tryd.ntmps44 ?hl ?_
 case hb => exact rfl
 case hl => exact rfl
 refine J.seq (J.region ?_)
 refine JL.loud rfl (l_makeMap rfl (fun b1 => ?_))
 refine JL.step (y_assign rfl) rfl rfl rfl ?_
 refine JL.nil (JE.then_normal (J.seq (J.region (JL.step (y_move rfl) rfl rfl rfl (JL.step (y_len_slice hT rfl rfl rfl) rfl rfl rfl (JL.step (y_move rfl) rfl rfl rfl ?_))))))
 refine JL.nil (JE.then_normal (J.block ?_))
 refine J.pre (l' := mapA letK LeOk b1 (leM []) :: A [] :: l) (fun w s => s.map_new (enc := letK) (ok := LeOk)) ?_
 refine J.loop (α := Nat) (fun i => i ≤ n) (fun i => [(0, .slice kp kn kc), (2, .func (.func fs) #[] caps.toArray), (6, .map (some b1)), (12, .slice lp n lc), (13, .int .i64 n), (14, .int .i64 i)]) (fun i => mapA letK LeOk b1 (leM (readF keys (ls.take i)).1) :: A (readF keys (ls.take i)).2.1 :: l) (fun i => n - i) 0 (Nat.zero_le _) ⟨rfl, rfl, rfl, rfl, rfl, rfl, trivial⟩ (fun w h => h) ?_
 intro i hi
 try dsimp only
 refine J.seq (J.region (JL.step (y_lss rfl rfl) rfl rfl rfl ?_))
 refine JL.nil (JE.then_normal (J.seq ?_))
 first | apply J.cond_dec rfl | apply J.cond rfl
 case' ht =>
  intro h
  try (first | (exfalso; omega) | (cases h; done) | (exfalso; simp at h; done) | subst h)
  all_goals
   refine J.skip ?_
 case' hf =>
  intro h
  try (first | (exfalso; omega) | (cases h; done) | (exfalso; simp at h; done) | subst h)
  all_goals
   refine J.exit (JE.then_exit (JE.then_exit (JE.block_exit ?_)))
   refine JE.ret0 (.inr rfl) rfl rfl  ?_
   obtain rfl : i = n := by omega
   rw [List.take_of_length_le (by omega)]
   exact ⟨rfl, fun w h => h.sup (by (repeat (first | exact Sup.refl | apply Sup.cons (by (repeat (first | exact Pick.head | apply Pick.tail | apply Pick.app))) | apply Sup.app | apply Sup.skip | apply Sup.skips)))⟩
 all_goals refine JE.then_normal ?_
 all_goals
  refine J.seq (J.block (J.seq (J.region ?_)))
  have hlt : i < n := by omega
  obtain ⟨x, hh⟩ : ∃ x, ls[i]? = some x := ⟨ls[i]'(by omega), List.getElem?_eq_getElem _⟩
  have hxk := hok x (List.mem_of_getElem? hh)
  have hst := read_take (keys := keys) hh
  have hct : (readF keys (ls.take i)).2.2 = i := by rw [read_count, List.length_take]; omega
  have hsee' := fun r cv => hsee r i x cv hh
  have hks := keyOf_isSome keys x.client
  have hpr := hxk.peer
  have hbd := hxk.body
  have hk1 := seE_peer hxk
  have hk2 := seE_round hxk
  have hk3 := seE_body hxk
  have hx1 := seE_length hxk
  obtain ⟨g, o, rfl, hr⟩ := hin.addr (by omega)
  refine JL.step (y_move rfl) rfl rfl rfl ?_
  refine JL.step (y_indexAddr_slice hT rfl rfl rfl rfl rfl (by (first | omega | exact Nat.le_of_ble_eq_true rfl | decide | (simp; omega))) (by (first | omega | exact Nat.le_of_ble_eq_true rfl | decide | (simp; omega)))) rfl rfl rfl ?_
  refine JL.step (y_loadN hT rfl rfl rfl (((RdN.elem (hr []) (fun x hx => seE_length (hok x hx)) hh).cons _).cons _) hx1) rfl rfl rfl ?_
  refine JL.loud rfl (l_alloc hT rfl rfl (by (first | rfl | simp)) rfl (fun b2 => ?_))
  refine JL.step (y_assign rfl) rfl rfl rfl ?_
  refine JL.loud rfl (l_storeAll hT rfl rfl rfl hx1 (seE_one x) (by (repeat (first | exact Pick.head | apply Pick.tail | apply Pick.app))) (by (first | rfl | assumption | (simp; done) | omega)) ?_)
  refine JL.nil (JE.then_normal ?_)
  refine J.seqK (α := Bool) (fun kb => kb = (keyOf keys x.client).isSome) (fun kb => [(0, .slice kp kn kc), (2, .func (.func fs) #[] caps.toArray), (6, .map (some b1)), (7, .int .i64 i), (8, .pointer (some ⟨b2, 0, none⟩)), (9, .bool kb), (12, .slice (some ⟨g, o, none⟩) n lc), (13, .int .i64 n), (14, .int .i64 i)]) (fun _ => row b2 55 (seE x) :: mapA letK LeOk b1 (leM (readF keys (ls.take i)).1) :: A (readF keys (ls.take i)).2.1 :: l) ?hj5 (fun hk5 => ?hf5)
  case hf5 =>
   refine J.region (JL.step (y_fieldAddr hT rfl rfl rfl rfl rfl rfl) rfl rfl rfl ?_)
   refine JL.step (y_load1 hT rfl rfl rfl (by (exact Rd1.row (by (repeat (first | exact Pick.head | apply Pick.tail | apply Pick.app))) (by rfl)))) rfl rfl rfl ?_
   refine JL.step (y_geq rfl rfl) rfl rfl rfl (JL.step (y_move rfl) rfl rfl rfl ?_)
   all_goals (first | (refine JL.gsplit_dec rfl rfl rfl (fun h => ?_) (fun h => ?_) <;> try (first | (exfalso; omega) | exact absurd rfl h)) | (refine JL.gsplit rfl rfl rfl (fun h => ?_) (fun h => ?_) <;> try (first | cases h | (exfalso; simp at h; done))) | skip)
   all_goals (first | refine JL.gskip rfl rfl rfl rfl rfl rfl ?_ | refine JL.gskipU rfl rfl rfl rfl rfl ?_ | refine JL.gstep rfl rfl rfl (y_fieldAddr hT rfl rfl rfl rfl rfl rfl) rfl rfl ?_)
   all_goals (first | refine JL.gskip rfl rfl rfl rfl rfl rfl ?_ | refine JL.gskipU rfl rfl rfl rfl rfl ?_ | refine JL.gstep rfl rfl rfl (y_load1 hT rfl rfl rfl (by (exact Rd1.row (by (repeat (first | exact Pick.head | apply Pick.tail | apply Pick.app))) (by rfl)))) rfl rfl ?_)
   all_goals (first | refine JL.gskip rfl rfl rfl rfl rfl rfl ?_ | refine JL.gskipU rfl rfl rfl rfl rfl ?_ | refine JL.gstep rfl rfl rfl (y_move rfl) rfl rfl ?_)
   all_goals (first | refine JL.gskip rfl rfl rfl rfl rfl rfl ?_ | refine JL.gskipU rfl rfl rfl rfl rfl ?_ | refine JL.gstep rfl rfl rfl (y_len_slice hT rfl rfl rfl) rfl rfl ?_)
   all_goals (first | refine JL.gskip rfl rfl rfl rfl rfl rfl ?_ | refine JL.gskipU rfl rfl rfl rfl rfl ?_ | refine JL.gstep rfl rfl rfl (y_lss rfl rfl) rfl rfl ?_)
   all_goals (refine JL.step (y_pick rfl rfl rfl) rfl rfl rfl ?_)
   all_goals (refine JL.step (y_assign rfl) rfl rfl rfl ?_)
   all_goals refine JL.nil (JE.then_normal ?_)
   all_goals
    first
    | exact J.closeK hk5 (decide (x.client < (kn : Int))) (by rw [hks, hkn]; exact decide_eq_decide.2 ⟨fun q => ⟨by omega, q⟩, fun q => q.2⟩) ⟨rfl, rfl, rfl, rfl, rfl, rfl, rfl, rfl, rfl, trivial⟩ (fun w h => h)
    | exact J.closeK hk5 false (by rw [hks, decide_eq_false]; omega) ⟨rfl, rfl, rfl, rfl, rfl, rfl, rfl, rfl, rfl, trivial⟩ (fun w h => h)
  rintro kb hkb
  try dsimp only
  obtain ⟨client, opened, peer, round, body⟩ := x
  dsimp only at hkb hpr hbd hk1 hk2 hk3 ⊢
  refine J.seq (J.region (JL.step (y_fieldAddr hT rfl rfl rfl rfl rfl rfl) rfl rfl rfl (JL.step (y_fieldAddr hT rfl rfl rfl rfl rfl rfl) rfl rfl rfl ?_)))
  refine JL.step (y_load1 hT rfl rfl rfl (Rd1.row (by (repeat (first | exact Pick.head | apply Pick.tail | apply Pick.app))) hk2)) rfl rfl rfl ?_
  refine JL.step (y_fieldAddr hT rfl rfl rfl rfl rfl rfl) rfl rfl rfl (JL.step (y_fieldAddr hT rfl rfl rfl rfl rfl rfl) rfl rfl rfl ?_)
  refine JL.step (y_loadN hT rfl rfl rfl (RdN.row (n := 130) (vs := ints .u8 body) (by (repeat (first | exact Pick.head | apply Pick.tail | apply Pick.app))) hk3) (by simp [ints, hbd]; rfl)) rfl rfl rfl ?_
  refine JL.step (v := .agg (leE (le0 round body)).toArray) (y_build (cs := leE (le0 round body)) hT rfl rfl rfl rfl rfl rfl (fillok_let hbd) (fill_let rfl rfl hbd)) rfl rfl rfl ?_
  refine JL.loud rfl (l_alloc hT rfl rfl (by (first | rfl | simp)) rfl (fun b3 => ?_))
  refine JL.loud rfl (l_storeAll hT rfl rfl rfl (leE_length (le0_ok hbd)) (leE_one _) (by (repeat (first | exact Pick.head | apply Pick.tail | apply Pick.app))) (by (first | rfl | assumption | (simp; done) | omega)) ?_)
  refine JL.nil (JE.then_normal ?_)
  rcases hkey : keyOf keys client with _ | k <;> cases opened
  all_goals simp only [readStep, hkey, hct] at hst
  all_goals rw [hkey] at hkb
  all_goals subst hkb
  ·
   skip
   refine J.block (J.seq (J.region (JL.step (y_fieldAddr hT rfl rfl rfl rfl rfl rfl) rfl rfl rfl (JL.step (y_fieldAddr hT rfl rfl rfl rfl rfl rfl) rfl rfl rfl ?_))))
   refine JL.step (y_load1 hT rfl rfl rfl (by (exact Rd1.row (by (repeat (first | exact Pick.head | apply Pick.tail | apply Pick.app))) (by rfl)))) rfl rfl rfl ?_
   refine JL.step (y_move rfl) rfl rfl rfl ?_
   all_goals (first | (refine JL.gsplit_dec rfl rfl rfl (fun h => ?_) (fun h => ?_) <;> try (first | (exfalso; omega) | exact absurd rfl h)) | (refine JL.gsplit rfl rfl rfl (fun h => ?_) (fun h => ?_) <;> try (first | cases h | (exfalso; simp at h; done))) | skip)
   all_goals (first | refine JL.gskip rfl rfl rfl rfl rfl rfl ?_ | refine JL.gskipU rfl rfl rfl rfl rfl ?_ | refine JL.gstep rfl rfl rfl (y_move rfl) rfl rfl ?_)
   all_goals (first | refine JL.gskip rfl rfl rfl rfl rfl rfl ?_ | refine JL.gskipU rfl rfl rfl rfl rfl ?_ | refine JL.gstep rfl rfl rfl (y_not rfl) rfl rfl ?_)
   all_goals (refine JL.step (y_pick rfl rfl rfl) rfl rfl rfl ?_)
   all_goals (refine JL.step (y_assign rfl) rfl rfl rfl ?_)
   all_goals refine JL.nil (JE.then_normal ?_)
   all_goals
    refine J.cond_f rfl (by (first | rfl | assumption | (simp; done) | (simp; omega))) ?_
    refine J.seq (J.region (JL.step (y_fieldAddr hT rfl rfl rfl rfl rfl rfl) rfl rfl rfl (JL.step (y_fieldAddr hT rfl rfl rfl rfl rfl rfl) rfl rfl rfl ?_)))
    refine JL.step (y_load1 hT rfl rfl rfl (by (exact Rd1.row (by (repeat (first | exact Pick.head | apply Pick.tail | apply Pick.app))) (by rfl)))) rfl rfl rfl ?_
    refine JL.step (y_assign rfl) rfl rfl rfl ?_
    refine JL.nil (JE.then_normal ?_)
    refine J.cond_f rfl (by (first | rfl | assumption | (simp; done) | (simp; omega))) ?_
    refine J.seq (J.region (JL.step (y_move rfl) rfl rfl rfl (JL.step (y_assign rfl) rfl rfl rfl ?_)))
    refine JL.nil (JE.then_normal ?_)
    refine J.cond_f rfl (by (first | rfl | assumption | (simp; done) | (simp; omega))) ?_
    refine J.skip ?_
   all_goals refine JE.block_normal ?_
   all_goals
    refine JE.block_normal (JE.then_normal (J.region ?_))
    refine JL.step (y_add rfl rfl (by (first | exact wrap_i64 (by omega) (by omega) | rfl))) rfl rfl rfl ?_
    refine JL.step (y_move rfl) rfl rfl rfl ?_
    refine JL.nil ?_
    exact JE.round (s := i) (i + 1) (by omega) ⟨rfl, rfl, rfl, rfl, rfl, rfl, trivial⟩ (fun w h => by rw [hst]; exact h.sup (by (repeat (first | exact Sup.refl | apply Sup.cons (by (repeat (first | exact Pick.head | apply Pick.tail | apply Pick.app))) | apply Sup.app | apply Sup.skip | apply Sup.skips)))) (by omega)
  ·
   skip
   refine J.block (J.seq (J.region (JL.step (y_fieldAddr hT rfl rfl rfl rfl rfl rfl) rfl rfl rfl (JL.step (y_fieldAddr hT rfl rfl rfl rfl rfl rfl) rfl rfl rfl ?_))))
   refine JL.step (y_load1 hT rfl rfl rfl (by (exact Rd1.row (by (repeat (first | exact Pick.head | apply Pick.tail | apply Pick.app))) (by rfl)))) rfl rfl rfl ?_
   refine JL.step (y_move rfl) rfl rfl rfl ?_
   all_goals (first | (refine JL.gsplit_dec rfl rfl rfl (fun h => ?_) (fun h => ?_) <;> try (first | (exfalso; omega) | exact absurd rfl h)) | (refine JL.gsplit rfl rfl rfl (fun h => ?_) (fun h => ?_) <;> try (first | cases h | (exfalso; simp at h; done))) | skip)
   all_goals (first | refine JL.gskip rfl rfl rfl rfl rfl rfl ?_ | refine JL.gskipU rfl rfl rfl rfl rfl ?_ | refine JL.gstep rfl rfl rfl (y_move rfl) rfl rfl ?_)
   all_goals (first | refine JL.gskip rfl rfl rfl rfl rfl rfl ?_ | refine JL.gskipU rfl rfl rfl rfl rfl ?_ | refine JL.gstep rfl rfl rfl (y_not rfl) rfl rfl ?_)
   all_goals (refine JL.step (y_pick rfl rfl rfl) rfl rfl rfl ?_)
   all_goals (refine JL.step (y_assign rfl) rfl rfl rfl ?_)
   all_goals refine JL.nil (JE.then_normal ?_)
   all_goals
    refine J.cond_t rfl (by (first | rfl | assumption | (simp; done) | (simp; omega))) ?_
    refine J.region (JL.step (y_move rfl) rfl rfl rfl (JL.step (y_move rfl) rfl rfl rfl ?_))
    refine JL.step (y_loadN hT rfl rfl rfl (by (first | exact RdN.rowAll (by (repeat (first | exact Pick.head | apply Pick.tail | apply Pick.app))) | exact RdN.own (by (repeat (first | exact Pick.head | apply Pick.tail | apply Pick.app))))) (by (first | rfl | assumption | (simp; done) | omega))) rfl rfl rfl ?_
    refine JL.loud rfl (l_callV eF rfl rfl rfl (Fc.on (Split.cons (by (repeat (first | exact Pick.head | apply Pick.tail | apply Pick.app))) Split.nil) (hsee' _ false ⟨[_, _, _], rfl⟩)) ?_)
    rintro _ _ ⟨rfl, rfl⟩
    refine JL.nil ?_
   all_goals refine JE.block_normal ?_
   all_goals
    refine JE.block_normal (JE.then_normal (J.region ?_))
    refine JL.step (y_add rfl rfl (by (first | exact wrap_i64 (by omega) (by omega) | rfl))) rfl rfl rfl ?_
    refine JL.step (y_move rfl) rfl rfl rfl ?_
    refine JL.nil ?_
    exact JE.round (s := i) (i + 1) (by omega) ⟨rfl, rfl, rfl, rfl, rfl, rfl, trivial⟩ (fun w h => by rw [hst]; exact h.sup (by (repeat (first | exact Sup.refl | apply Sup.cons (by (repeat (first | exact Pick.head | apply Pick.tail | apply Pick.app))) | apply Sup.app | apply Sup.skip | apply Sup.skips)))) (by omega)
  ·
   skip
   refine J.block (J.seq (J.region (JL.step (y_fieldAddr hT rfl rfl rfl rfl rfl rfl) rfl rfl rfl (JL.step (y_fieldAddr hT rfl rfl rfl rfl rfl rfl) rfl rfl rfl ?_))))
   refine JL.step (y_load1 hT rfl rfl rfl (by (exact Rd1.row (by (repeat (first | exact Pick.head | apply Pick.tail | apply Pick.app))) (by rfl)))) rfl rfl rfl ?_
   refine JL.step (y_move rfl) rfl rfl rfl ?_
   all_goals (first | (refine JL.gsplit_dec rfl rfl rfl (fun h => ?_) (fun h => ?_) <;> try (first | (exfalso; omega) | exact absurd rfl h)) | (refine JL.gsplit rfl rfl rfl (fun h => ?_) (fun h => ?_) <;> try (first | cases h | (exfalso; simp at h; done))) | skip)
   all_goals (first | refine JL.gskip rfl rfl rfl rfl rfl rfl ?_ | refine JL.gskipU rfl rfl rfl rfl rfl ?_ | refine JL.gstep rfl rfl rfl (y_move rfl) rfl rfl ?_)
   all_goals (first | refine JL.gskip rfl rfl rfl rfl rfl rfl ?_ | refine JL.gskipU rfl rfl rfl rfl rfl ?_ | refine JL.gstep rfl rfl rfl (y_not rfl) rfl rfl ?_)
   all_goals (refine JL.step (y_pick rfl rfl rfl) rfl rfl rfl ?_)
   all_goals (refine JL.step (y_assign rfl) rfl rfl rfl ?_)
   all_goals refine JL.nil (JE.then_normal ?_)
   all_goals
    refine J.cond_f rfl (by (first | rfl | assumption | (simp; done) | (simp; omega))) ?_
    refine J.seq (J.region (JL.step (y_fieldAddr hT rfl rfl rfl rfl rfl rfl) rfl rfl rfl (JL.step (y_fieldAddr hT rfl rfl rfl rfl rfl rfl) rfl rfl rfl ?_)))
    refine JL.step (y_load1 hT rfl rfl rfl (by (exact Rd1.row (by (repeat (first | exact Pick.head | apply Pick.tail | apply Pick.app))) (by rfl)))) rfl rfl rfl ?_
    refine JL.step (y_assign rfl) rfl rfl rfl ?_
    refine JL.nil (JE.then_normal ?_)
    refine J.cond_f rfl (by (first | rfl | assumption | (simp; done) | (simp; omega))) ?_
    refine J.seq (J.region (JL.step (y_move rfl) rfl rfl rfl (JL.step (y_assign rfl) rfl rfl rfl ?_)))
    refine JL.nil (JE.then_normal ?_)
    refine J.cond_t rfl (by (first | rfl | assumption | (simp; done) | (simp; omega))) ?_
    refine J.seq ?_
    obtain ⟨hc0, hc1, hck⟩ := keyOf_some hkey
    have hkl := hk32 k (List.mem_of_getElem? hck)
    obtain ⟨kg, ko, rfl, hkr⟩ := hkin.addr (by omega)
    have hke : RdN l kg (ko + client.toNat * 32) (ints .u8 k) := RdN.elem (hkr []) (fun k hk => by simp [ints, hk32 k hk]) hck
    have hlk : LeOk (k, peer, round, body) := ⟨hkl, hpr, hbd⟩
    refine J.draw _ _ [(0, .q), (1, .q), (2, .q), (3, .q), (4, .q), (5, .q), (6, .q), (7, .q), (8, .q), (9, .l), (10, .q), (11, .l)] mixed (by kernel_rfl) (Split.cons (Pick.head) (Split.nil)) ?_
    refine JM.quiet rfl rfl rfl rfl (fun m => y_move rfl) (JM.quiet rfl rfl rfl rfl (fun m => y_fieldAddr hT rfl rfl rfl rfl rfl rfl) ?_)
    refine JM.quiet rfl rfl rfl rfl (fun m => y_load1 hT rfl rfl rfl (by (exact Rd1.row (Pick.app m (by (repeat (first | exact Pick.head | apply Pick.tail | apply Pick.app)))) (by rfl)))) ?_
    refine JM.quiet rfl rfl rfl rfl (fun m => y_indexAddr_slice hT rfl rfl rfl rfl rfl (by (first | omega | exact Nat.le_of_ble_eq_true rfl | decide | (simp; omega))) (by (first | omega | exact Nat.le_of_ble_eq_true rfl | decide | (simp; omega)))) ?_
    refine JM.quiet rfl rfl rfl rfl (fun m => y_loadN hT rfl rfl rfl (vs := ints .u8 k) (by (repeat (first | assumption | apply RdN.cons | apply RdN.app))) (by simp [ints, hkl]; rfl)) ?_
    refine JM.quiet rfl rfl rfl rfl (fun m => y_fieldAddr hT rfl rfl rfl rfl rfl rfl) (JM.quiet rfl rfl rfl rfl (fun m => y_fieldAddr hT rfl rfl rfl rfl rfl rfl) ?_)
    refine JM.quiet rfl rfl rfl rfl (fun m => y_loadN hT rfl rfl rfl (RdN.row (n := 32) (vs := ints .u8 peer) (Pick.app m (by (repeat (first | exact Pick.head | apply Pick.tail | apply Pick.app)))) hk1) (by simp [ints, hpr]; rfl)) ?_
    refine JM.quiet rfl rfl rfl rfl (fun m => y_fieldAddr hT rfl rfl rfl rfl rfl rfl) ?_
    refine JM.loud rfl rfl (fun fr => l_storeFrom rfl rfl rfl (le0_ok hbd) hkl (by (repeat (first | exact Pick.head | apply Pick.tail | apply Pick.app))) ⟨[_], (by (repeat (first | exact Split.nil | exact Split.all | refine Split.cons Pick.head ?_))), ?_⟩)
    refine JM.quiet rfl rfl rfl rfl (fun m => y_fieldAddr hT rfl rfl rfl rfl rfl rfl) ?_
    refine JM.loud rfl rfl (fun fr => l_storeTo rfl rfl rfl (k := (k, (le0 round body).2)) ⟨hkl, (le0_ok hbd).2⟩ hpr (by (repeat (first | exact Pick.head | apply Pick.tail | apply Pick.app))) ⟨[_], (by (repeat (first | exact Split.nil | exact Split.all | refine Split.cons Pick.head ?_))), ?_⟩)
    refine JM.nil (JE.then_normal (J.region (JL.step (y_move rfl) rfl rfl rfl ?_)))
    refine JL.step (y_loadN hT rfl rfl rfl (vs := leE (k, peer, round, body)) (RdN.rowAll (by (repeat (first | exact Pick.head | apply Pick.tail | apply Pick.app)))) (leE_length hlk)) rfl rfl rfl ?_
    refine JL.loud rfl (l_mapUpdate (a := (k, peer, round, body)) hT rfl rfl keyLet rfl rfl rfl rfl hlk (by (repeat (first | exact Pick.head | apply Pick.tail | apply Pick.app))) ?_)
    refine JL.nil ?_
   all_goals refine JE.block_normal ?_
   all_goals
    refine JE.block_normal (JE.then_normal (J.region ?_))
    refine JL.step (y_add rfl rfl (by (first | exact wrap_i64 (by omega) (by omega) | rfl))) rfl rfl rfl ?_
    refine JL.step (y_move rfl) rfl rfl rfl ?_
    refine JL.nil ?_
    exact JE.round (s := i) (i + 1) (by omega) ⟨rfl, rfl, rfl, rfl, rfl, rfl, trivial⟩ (fun w h => by rw [leM_put] at h; rw [hst]; exact h.sup (by (repeat (first | exact Sup.refl | apply Sup.cons (by (repeat (first | exact Pick.head | apply Pick.tail | apply Pick.app))) | apply Sup.app | apply Sup.skip | apply Sup.skips)))) (by omega)
  ·
   skip
   refine J.block (J.seq (J.region (JL.step (y_fieldAddr hT rfl rfl rfl rfl rfl rfl) rfl rfl rfl (JL.step (y_fieldAddr hT rfl rfl rfl rfl rfl rfl) rfl rfl rfl ?_))))
   refine JL.step (y_load1 hT rfl rfl rfl (by (exact Rd1.row (by (repeat (first | exact Pick.head | apply Pick.tail | apply Pick.app))) (by rfl)))) rfl rfl rfl ?_
   refine JL.step (y_move rfl) rfl rfl rfl ?_
   all_goals (first | (refine JL.gsplit_dec rfl rfl rfl (fun h => ?_) (fun h => ?_) <;> try (first | (exfalso; omega) | exact absurd rfl h)) | (refine JL.gsplit rfl rfl rfl (fun h => ?_) (fun h => ?_) <;> try (first | cases h | (exfalso; simp at h; done))) | skip)
   all_goals (first | refine JL.gskip rfl rfl rfl rfl rfl rfl ?_ | refine JL.gskipU rfl rfl rfl rfl rfl ?_ | refine JL.gstep rfl rfl rfl (y_move rfl) rfl rfl ?_)
   all_goals (first | refine JL.gskip rfl rfl rfl rfl rfl rfl ?_ | refine JL.gskipU rfl rfl rfl rfl rfl ?_ | refine JL.gstep rfl rfl rfl (y_not rfl) rfl rfl ?_)
   all_goals (refine JL.step (y_pick rfl rfl rfl) rfl rfl rfl ?_)
   all_goals (refine JL.step (y_assign rfl) rfl rfl rfl ?_)
   all_goals refine JL.nil (JE.then_normal ?_)
   all_goals
    refine J.cond_f rfl (by (first | rfl | assumption | (simp; done) | (simp; omega))) ?_
    refine J.seq (J.region (JL.step (y_fieldAddr hT rfl rfl rfl rfl rfl rfl) rfl rfl rfl (JL.step (y_fieldAddr hT rfl rfl rfl rfl rfl rfl) rfl rfl rfl ?_)))
    refine JL.step (y_load1 hT rfl rfl rfl (by (exact Rd1.row (by (repeat (first | exact Pick.head | apply Pick.tail | apply Pick.app))) (by rfl)))) rfl rfl rfl ?_
    refine JL.step (y_assign rfl) rfl rfl rfl ?_
    refine JL.nil (JE.then_normal ?_)
    refine J.cond_t rfl (by (first | rfl | assumption | (simp; done) | (simp; omega))) ?_
    refine J.seq ?_
    obtain ⟨hc0, hc1, hck⟩ := keyOf_some hkey
    have hkl := hk32 k (List.mem_of_getElem? hck)
    obtain ⟨kg, ko, rfl, hkr⟩ := hkin.addr (by omega)
    have hke : RdN l kg (ko + client.toNat * 32) (ints .u8 k) := RdN.elem (hkr []) (fun k hk => by simp [ints, hk32 k hk]) hck
    have hlk : LeOk (peer, k, round, body) := ⟨hpr, hkl, hbd⟩
    refine J.draw _ _ [(0, .q), (1, .q), (2, .q), (3, .q), (4, .q), (5, .q), (6, .q), (7, .q), (8, .q), (9, .l), (10, .q), (11, .l)] mixed (by kernel_rfl) (Split.cons (Pick.head) (Split.nil)) ?_
    refine JM.quiet rfl rfl rfl rfl (fun m => y_fieldAddr hT rfl rfl rfl rfl rfl rfl) (JM.quiet rfl rfl rfl rfl (fun m => y_fieldAddr hT rfl rfl rfl rfl rfl rfl) ?_)
    refine JM.quiet rfl rfl rfl rfl (fun m => y_loadN hT rfl rfl rfl (RdN.row (n := 32) (vs := ints .u8 peer) (Pick.app m (by (repeat (first | exact Pick.head | apply Pick.tail | apply Pick.app)))) hk1) (by simp [ints, hpr]; rfl)) ?_
    refine JM.quiet rfl rfl rfl rfl (fun m => y_move rfl) (JM.quiet rfl rfl rfl rfl (fun m => y_fieldAddr hT rfl rfl rfl rfl rfl rfl) ?_)
    refine JM.quiet rfl rfl rfl rfl (fun m => y_load1 hT rfl rfl rfl (by (exact Rd1.row (Pick.app m (by (repeat (first | exact Pick.head | apply Pick.tail | apply Pick.app)))) (by rfl)))) ?_
    refine JM.quiet rfl rfl rfl rfl (fun m => y_indexAddr_slice hT rfl rfl rfl rfl rfl (by (first | omega | exact Nat.le_of_ble_eq_true rfl | decide | (simp; omega))) (by (first | omega | exact Nat.le_of_ble_eq_true rfl | decide | (simp; omega)))) ?_
    refine JM.quiet rfl rfl rfl rfl (fun m => y_loadN hT rfl rfl rfl (vs := ints .u8 k) (by (repeat (first | assumption | apply RdN.cons | apply RdN.app))) (by simp [ints, hkl]; rfl)) ?_
    refine JM.quiet rfl rfl rfl rfl (fun m => y_fieldAddr hT rfl rfl rfl rfl rfl rfl) ?_
    refine JM.loud rfl rfl (fun fr => l_storeFrom rfl rfl rfl (le0_ok hbd) hpr (by (repeat (first | exact Pick.head | apply Pick.tail | apply Pick.app))) ⟨[_], (by (repeat (first | exact Split.nil | exact Split.all | refine Split.cons Pick.head ?_))), ?_⟩)
    refine JM.quiet rfl rfl rfl rfl (fun m => y_fieldAddr hT rfl rfl rfl rfl rfl rfl) ?_
    refine JM.loud rfl rfl (fun fr => l_storeTo rfl rfl rfl (k := (peer, (le0 round body).2)) ⟨hpr, (le0_ok hbd).2⟩ hkl (by (repeat (first | exact Pick.head | apply Pick.tail | apply Pick.app))) ⟨[_], (by (repeat (first | exact Split.nil | exact Split.all | refine Split.cons Pick.head ?_))), ?_⟩)
    refine JM.nil (JE.then_normal ?_)
    refine J.draw _ _ [(0, .q), (1, .q), (2, .q), (3, .q), (4, .q), (5, .q), (6, .l)] mixed (by kernel_rfl) (Split.cons (Pick.tail (Pick.tail (Pick.tail Pick.head))) (Split.nil)) ?_
    refine JM.quiet rfl rfl rfl rfl (fun m => y_move rfl) (JM.quiet rfl rfl rfl rfl (fun m => y_move rfl) ?_)
    refine JM.quiet rfl rfl rfl rfl (fun m => y_loadN hT rfl rfl rfl (RdN.rowAll (Pick.app m (by (repeat (first | exact Pick.head | apply Pick.tail | apply Pick.app))))) hx1) ?_
    refine JM.quiet rfl rfl rfl rfl (fun m => y_move rfl) ?_
    refine JM.quiet rfl rfl rfl rfl (fun m => y_loadN hT rfl rfl rfl (vs := leE (peer, k, round, body)) (RdN.rowAll (Pick.app m (by (repeat (first | exact Pick.head | apply Pick.tail | apply Pick.app))))) (leE_length hlk)) ?_
    refine JM.quiet rfl rfl rfl rfl (fun m => Y.val (y_lookup (a := (peer, k, round, body)) hT rfl rfl rfl rfl keyLet rfl rfl rfl hlk (Pick.app m (by (repeat (first | exact Pick.head | apply Pick.tail | apply Pick.app))))) (leM_look _ _)) ?_
    refine JM.loud rfl rfl (fun fr => l_callV eF rfl rfl rfl (Fc.on (Split.cons Pick.head Split.nil) (hsee' _ _ ⟨fr ++ [_, _, _], (List.append_assoc fr [_, _, _] l).symm⟩)) ?_)
    rintro _ _ ⟨rfl, rfl⟩
    refine ⟨[_], (by (repeat (first | exact Split.nil | exact Split.all | refine Split.cons Pick.head ?_))), ?_⟩
    refine JM.nil ?_
   all_goals refine JE.block_normal ?_
   all_goals
    refine JE.block_normal (JE.then_normal (J.region ?_))
    refine JL.step (y_add rfl rfl (by (first | exact wrap_i64 (by omega) (by omega) | rfl))) rfl rfl rfl ?_
    refine JL.step (y_move rfl) rfl rfl rfl ?_
    refine JL.nil ?_
    exact JE.round (s := i) (i + 1) (by omega) ⟨rfl, rfl, rfl, rfl, rfl, rfl, trivial⟩ (fun w h => by rw [hst]; exact h.sup (by (repeat (first | exact Sup.refl | apply Sup.cons (by (repeat (first | exact Pick.head | apply Pick.tail | apply Pick.app))) | apply Sup.app | apply Sup.skip | apply Sup.skips)))) (by omega)
end
end
section
open Go Go.SL
section
def accI (cs : List (Nat × SealT × Bool)) : List Int := (cs.filter fun c => !c.2.2).map fun c => (c.1 : Int)
theorem accI_snoc (cs : List (Nat × SealT × Bool)) (i : Nat) (x : SealT) (cv : Bool) : accI (cs ++ [(i, x, cv)]) = accI cs ++ (if cv then [] else [(i : Int)]) := by
 unfold accI
 rw [List.filter_append, List.map_append]
 cases cv <;> rfl
theorem calls_length (keys : List (List Int)) (ls : List SealT) : (readF keys ls).2.1.length ≤ ls.length := by
 have h : ∀ (ls : List SealT) (s : List LetT × List (Nat × SealT × Bool) × Nat), (ls.foldl (readStep keys) s).2.1.length ≤ s.2.1.length + ls.length := by
  intro ls
  induction ls with
  | nil => intro s; simp
  | cons x r ih =>
    intro s
    have h1 := ih (readStep keys s x)
    have h2 : (readStep keys s x).2.1.length ≤ s.2.1.length + 1 := by unfold readStep; split <;> simp
    rw [List.foldl_cons, List.length_cons]; omega
 have := h ls ([], [], 0)
 unfold readF
 simpa using this
theorem accI_length (cs : List (Nat × SealT × Bool)) : (accI cs).length ≤ cs.length := by
 unfold accI
 rw [List.length_map]
 exact List.length_filter_le ..
def outI (bo : Nat) (xs : List Int) : HProp := pk fun q : Option Addr × Nat => [row bo 45 [.slice q.1 xs.length q.2], own 3 1 (.slice q.1 xs.length q.2) xs.length (xs.map (Value.int .i64))]
end
section
attribute [local irreducible] J JL JE JM LS Y Fc RV Code.wp wpList Code.wpIn wpListIn
attribute [local irreducible] Yc
variable (E : World)
theorem accidents1 (bo i : Nat) (x : SealT) (cv : Bool) (cs : List (Nat × SealT × Bool)) (r : List HProp) (hx : SeOk x) (hl : cs.length ≤ 1000000) :
 Fc prog E 45 [.int .i64 i, .agg (seE x).toArray, .bool cv, .pointer (some ⟨bo, 0, none⟩)].toArray (outI bo (accI cs) :: r) (fun v l' => v = .tuple #[] ∧ l' = outI bo (accI (cs ++ [(i, x, cv)])) :: r) := by
 have hal := accI_length cs
 rw [accI_snoc]
 refine Fc.eqs ?_
 refine Fc.pks fun q => ?_
 obtain ⟨a, c⟩ := q
 dsimp only
 refine Fc.of_body (c := ?codeC) Tryd.func45 ?hb Tryd.ntmps45 ?hl ?_
 case hb => exact rfl
 case hl => exact rfl
 refine J.seq (J.region ?_)
 refine JL.loud rfl (l_box rfl (by (first | rfl | simp)) rfl (fun b1 => ?_))
 refine JL.nil (JE.then_normal (J.seq (J.region (JL.step (y_move rfl) rfl rfl rfl (JL.step (y_not rfl) rfl rfl rfl ?_)))))
 refine JL.nil (JE.then_normal ?_)
 first | apply J.cond_dec rfl | apply J.cond rfl
 case' ht =>
  intro h
  try (first | (exfalso; omega) | (cases h; done) | (exfalso; simp at h; done) | subst h)
  all_goals
   refine J.region ?_
   refine JL.step (y_load1 hT rfl rfl rfl (by (exact Rd1.row (by (repeat (first | exact Pick.head | apply Pick.tail | apply Pick.app))) (by rfl)))) rfl rfl rfl ?_
   refine JL.step (y_move rfl) rfl rfl rfl ?_
   refine JL.loud rfl (l_buildSliceP hT rfl rfl rfl rfl rfl rfl rfl (by (first | exact fill_one rfl (by first | assumption | rfl | (simp; done)) | rfl | simp)) rfl (fun b2 => ?_))
   refine JL.loud rfl (l_append hT rfl rfl rfl rfl rfl rfl rfl rfl (by (repeat (first | exact Pick.head | apply Pick.tail | apply Pick.app))) (by (first | exact RdN.rowAll (by (repeat (first | exact Pick.head | apply Pick.tail | apply Pick.app))) | exact RdN.own (by (repeat (first | exact Pick.head | apply Pick.tail | apply Pick.app))))) (by (first | rfl | assumption | (simp; done) | omega)) (by (first | assumption | exact ones_of rfl | exact encW_one _ | exact encB_one _ | (intro u hu; simp at hu; rcases hu with rfl | rfl <;> rfl) | (intro u hu; simp at hu; subst hu; rfl) | simp)) (by (first | exact Nat.le_trans (Nat.mul_le_mul_left _ (Nat.le_of_ble_eq_true rfl : _ ≤ 4096)) (by omega) | exact Nat.le_trans (Nat.mul_le_mul_left _ (Nat.le_of_ble_eq_true rfl : _ ≤ 1)) (by omega))) (by (first | omega | exact Nat.le_of_ble_eq_true rfl | decide | (simp; omega))) rfl (fun ab3 cb3 hb3 => ?_))
   refine JL.loud rfl (l_store1 hT rfl rfl rfl rfl rfl (by (repeat (first | exact Pick.head | apply Pick.tail | apply Pick.app))) (by (first | omega | exact Nat.le_of_ble_eq_true rfl | decide | (simp; omega))) ?_)
   refine JL.nil ?_
 case' hf =>
  intro h
  try (first | (exfalso; omega) | (cases h; done) | (exfalso; simp at h; done) | subst h)
  all_goals
   refine J.skip ?_
 all_goals
  refine JE.ret0 (.inr rfl) rfl rfl  ?_
  refine ⟨rfl, fun w q => ?_⟩
  cases cv
  · first
    | (exfalso; revert h; decide)
    | rw [if_neg (by decide)]
      unfold outI
      refine Sat.topk (F := fun q : Option Addr × Nat => [row bo 45 [.slice q.1 (accI cs ++ [(i : Int)]).length q.2], own 3 1 (.slice q.1 (accI cs ++ [(i : Int)]).length q.2) (accI cs ++ [(i : Int)]).length ((accI cs ++ [(i : Int)]).map (Value.int .i64))]) (ab3, cb3) ?_
      dsimp only
      rw [List.length_append, List.map_append]
      exact q.sup (by (repeat (first | exact Sup.refl | apply Sup.cons (by (repeat (first | exact Pick.head | apply Pick.tail | apply Pick.app))) | apply Sup.app | apply Sup.skip | apply Sup.skips)))
  · first
    | (exfalso; revert h; decide)
    | rw [if_pos rfl, List.append_nil]
      unfold outI
      exact Sat.topk (F := fun q : Option Addr × Nat => [row bo 45 [.slice q.1 (accI cs).length q.2], own 3 1 (.slice q.1 (accI cs).length q.2) (accI cs).length ((accI cs).map (Value.int .i64))]) (a, c) (q.sup (by (repeat (first | exact Sup.refl | apply Sup.cons (by (repeat (first | exact Pick.head | apply Pick.tail | apply Pick.app))) | apply Sup.app | apply Sup.skip | apply Sup.skips))))
theorem accidents_spec (kp : Option Addr) (kn kc : Nat) (keys : List (List Int)) (lp : Option Addr) (n lc : Nat) (ls : List SealT) (l : List HProp)
 (hkn : keys.length = kn) (hk32 : ∀ k ∈ keys, k.length = 32) (hkin : InL l kp kn kc (keys.flatMap (ints .u8))) (hkm : kn ≤ 1000000)
 (hn : ls.length = n) (hn8 : n ≤ 1000000) (hok : ∀ x ∈ ls, SeOk x) (hin : InL l lp n lc (ls.flatMap seE)) :
 Fc prog E 23 [.slice kp kn kc, .slice lp n lc].toArray l (fun v l' => ∃ a c, v = .slice a (accI (readF keys ls).2.1).length c ∧ l' = own 3 1 v (accI (readF keys ls).2.1).length ((accI (readF keys ls).2.1).map (Value.int .i64)) :: l) := by
 refine Fc.post ?_
 refine Fc.of_body (c := ?codeC) Tryd.func23 ?hb Tryd.ntmps23 ?hl ?_
 case hb => exact rfl
 case hl => exact rfl
 refine J.seq (J.region (JL.step (y_assign rfl) rfl rfl rfl ?_))
 refine JL.nil (JE.then_normal (J.seq (J.region ?_)))
 refine JL.loud rfl (l_alloc hT rfl rfl (by (first | rfl | simp)) rfl (fun b1 => ?_))
 refine JL.nil (JE.then_normal (J.seq ?_))
 refine J.pre (l' := outI b1 (accI []) :: l) (fun w s => ?_) ?_
 · unfold outI
   exact Sat.topk (F := fun q : Option Addr × Nat => [row b1 45 [.slice q.1 0 q.2], own 3 1 (.slice q.1 0 q.2) 0 []]) (none, 0) ((Sat.own_nil (e := 3) (size := 1) s).sup (by (repeat (first | exact Sup.refl | apply Sup.cons (by (repeat (first | exact Pick.head | apply Pick.tail | apply Pick.app))) | apply Sup.app | apply Sup.skip | apply Sup.skips))))
 refine J.region (JL.step (y_move rfl) rfl rfl rfl (JL.step (y_move rfl) rfl rfl rfl (JL.step (y_makeFunc rfl rfl) rfl rfl rfl ?_)))
 refine JL.loud rfl (l_callF e44 rfl rfl (read_spec E _ e45 [Value.pointer (some ⟨b1, 0, none⟩)] kp kn kc keys lp n lc ls (fun cs => outI b1 (accI cs)) l hkn hk32 hkin hkm hn hn8 hok hin (fun r i x cv hh _ => accidents1 E b1 i x cv _ r (hok x (List.mem_of_getElem? hh)) (by have := calls_length keys (ls.take i); rw [List.length_take] at this; omega))) ?_)
 rintro _ _ ⟨rfl, rfl⟩
 refine JL.nil (JE.then_normal (J.seq ?_))
 unfold outI
 refine J.pks fun q => ?_
 obtain ⟨a, cq⟩ := q
 dsimp only
 refine J.region ?_
 refine JL.step (y_load1 hT rfl rfl rfl (by (exact Rd1.row (by (repeat (first | exact Pick.head | apply Pick.tail | apply Pick.app))) (by rfl)))) rfl rfl rfl ?_
 refine JL.step (y_assign rfl) rfl rfl rfl ?_
 refine JL.nil (JE.then_normal (J.ret ?_))
 refine JE.ret1 (.inl rfl) rfl rfl (by (first | exact RV.tmp rfl | exact RV.cell1 hT rfl rfl rfl (by (exact Rd1.row (by (repeat (first | exact Pick.head | apply Pick.tail | apply Pick.app))) (by rfl))) | exact RV.cellN hT rfl rfl rfl (by (first | exact RdN.rowAll (by (repeat (first | exact Pick.head | apply Pick.tail | apply Pick.app))) | exact RdN.own (by (repeat (first | exact Pick.head | apply Pick.tail | apply Pick.app))))) (by (first | rfl | assumption | (simp; done) | omega)))) ?_
 exact ⟨_, fun w h => h.sup (by (repeat (first | exact Sup.refl | apply Sup.cons (by (repeat (first | exact Pick.head | apply Pick.tail | apply Pick.app))) | apply Sup.app | apply Sup.skip | apply Sup.skips))), a, cq, rfl, rfl⟩
end
end
section
open Go Go.SL
section
attribute [local irreducible] J JL JE JM LS Y Fc RV Code.wp wpList Code.wpIn wpListIn
attribute [local irreducible] Yc
variable (E : World)
abbrev arI (g : Nat) (d : Array Int) (sp : List Value) : HProp := arr g 3 (fun x => [(Value.int .i64) x]) d sp
theorem isNaNI (x : Int) (l : List HProp) : Fc prog E 62 [(Value.int .i64) x].toArray l (fun v l' => v = .bool false ∧ l' = l) := by
 refine Fc.of_body (c := ?codeC) Tryd.func62 ?hb Tryd.ntmps62 ?hl ?_
 case hb => exact rfl
 case hl => exact rfl
 refine J.seq (J.region (JL.step (y_assign rfl) rfl rfl rfl ?_))
 refine JL.nil (JE.then_normal (J.seq (J.region (JL.step (y_move rfl) rfl rfl rfl (JL.step (y_move rfl) rfl rfl rfl (JL.step (y_neq rfl rfl) rfl rfl rfl (JL.step (y_assign rfl) rfl rfl rfl ?_)))))))
 refine JL.nil (JE.then_normal (J.ret ?_))
 refine JE.ret1 (.inl rfl) rfl rfl (by (first | exact RV.tmp rfl | exact RV.cell1 hT rfl rfl rfl (by (exact Rd1.row (by (repeat (first | exact Pick.head | apply Pick.tail | apply Pick.app))) (by rfl))) | exact RV.cellN hT rfl rfl rfl (by (first | exact RdN.rowAll (by (repeat (first | exact Pick.head | apply Pick.tail | apply Pick.app))) | exact RdN.own (by (repeat (first | exact Pick.head | apply Pick.tail | apply Pick.app))))) (by (first | rfl | assumption | (simp; done) | omega)))) ?_
 exact ⟨by simp, rfl⟩
theorem lessI (x y : Int) (l : List HProp) : Fc prog E 112 [(Value.int .i64) x, (Value.int .i64) y].toArray l (fun v l' => v = .bool (Sort.ltInt x y) ∧ l' = l) := by
 refine Fc.of_body (c := ?codeC) Tryd.func112 ?hb Tryd.ntmps112 ?hl ?_
 case hb => exact rfl
 case hl => exact rfl
 refine J.seq (J.region (JL.step (y_assign rfl) rfl rfl rfl ?_))
 refine JL.nil (JE.then_normal (J.seq (J.region (JL.step (y_move rfl) rfl rfl rfl ?_))))
 refine JL.loud rfl (l_callF e62 rfl rfl (isNaNI E _ _) ?_)
 rintro _ _ ⟨rfl, rfl⟩
 refine JL.step (y_move rfl) rfl rfl rfl ?_
 all_goals (first | (refine JL.gsplit_dec rfl rfl rfl (fun h => ?_) (fun h => ?_) <;> try (first | (exfalso; omega) | exact absurd rfl h)) | (refine JL.gsplit rfl rfl rfl (fun h => ?_) (fun h => ?_) <;> try (first | cases h | (exfalso; simp at h; done))) | skip)
 all_goals (first | refine JL.gskip rfl rfl rfl rfl rfl rfl ?_ | refine JL.gskipU rfl rfl rfl rfl rfl ?_ | refine JL.gstep rfl rfl rfl (y_move rfl) rfl rfl ?_)
 all_goals (first | refine JL.gskip rfl rfl rfl rfl rfl rfl ?_ | refine JL.gskipU rfl rfl rfl rfl rfl ?_ | (refine JL.gloud rfl rfl rfl (l_callF e62 rfl rfl (isNaNI E _ _) ?_); rintro _ _ ⟨rfl, rfl⟩))
 all_goals (first | refine JL.gskip rfl rfl rfl rfl rfl rfl ?_ | refine JL.gskipU rfl rfl rfl rfl rfl ?_ | refine JL.gstep rfl rfl rfl (y_not rfl) rfl rfl ?_)
 all_goals (refine JL.step (y_pick rfl rfl rfl) rfl rfl rfl ?_)
 all_goals (refine JL.step (y_move rfl) rfl rfl rfl ?_)
 all_goals (first | (refine JL.gsplit_dec rfl rfl rfl (fun h => ?_) (fun h => ?_) <;> try (first | (exfalso; omega) | exact absurd rfl h)) | (refine JL.gsplit rfl rfl rfl (fun h => ?_) (fun h => ?_) <;> try (first | cases h | (exfalso; simp at h; done))) | skip)
 all_goals (first | refine JL.gskip rfl rfl rfl rfl rfl rfl ?_ | refine JL.gskipU rfl rfl rfl rfl rfl ?_ | refine JL.gstep rfl rfl rfl (y_move rfl) rfl rfl ?_)
 all_goals (first | refine JL.gskip rfl rfl rfl rfl rfl rfl ?_ | refine JL.gskipU rfl rfl rfl rfl rfl ?_ | refine JL.gstep rfl rfl rfl (y_move rfl) rfl rfl ?_)
 all_goals (first | refine JL.gskip rfl rfl rfl rfl rfl rfl ?_ | refine JL.gskipU rfl rfl rfl rfl rfl ?_ | refine JL.gstep rfl rfl rfl (y_lss rfl rfl) rfl rfl ?_)
 all_goals (refine JL.step (y_pick rfl rfl rfl) rfl rfl rfl ?_)
 all_goals (refine JL.step (y_assign rfl) rfl rfl rfl ?_)
 all_goals refine JL.nil (JE.then_normal ?_)
 all_goals
  refine J.ret ?_
  refine JE.ret1 (.inl rfl) rfl rfl (by (first | exact RV.tmp rfl | exact RV.cell1 hT rfl rfl rfl (by (exact Rd1.row (by (repeat (first | exact Pick.head | apply Pick.tail | apply Pick.app))) (by rfl))) | exact RV.cellN hT rfl rfl rfl (by (first | exact RdN.rowAll (by (repeat (first | exact Pick.head | apply Pick.tail | apply Pick.app))) | exact RdN.own (by (repeat (first | exact Pick.head | apply Pick.tail | apply Pick.app))))) (by (first | rfl | assumption | (simp; done) | omega)))) ?_
  exact ⟨rfl, rfl⟩
attribute [local irreducible] Sort.ltInt
theorem insI (g c n a b : Nat) (ia ib : Int) (d : Array Int) (sp : List Value) (r : List HProp) (ea : ia = a) (eb : ib = b) (hn : d.size = n) (ha : a ≤ n) (hb : b ≤ n) (h63 : n < 4611686018427387904) :
 Fc prog E 106 [.slice (some ⟨g, 0, none⟩) n c, .int .i64 ia, .int .i64 ib].toArray (arI g d sp :: r) (fun v l' => v = .tuple #[] ∧ l' = arI g (Sort.insertionSort Sort.ltInt d a b) sp :: r) := by
 refine Fc.eqs ?_
 subst ea eb
 refine Fc.of_body (c := ?codeC) Tryd.func106 ?hb Tryd.ntmps106 ?hl ?_
 case hb => exact rfl
 case hl => exact rfl
 refine J.seq (J.region (JL.step (y_move rfl) rfl rfl rfl ?_))
 refine JL.step (y_add rfl rfl (by (first | exact wrap_i64 (by omega) (by omega) | rfl))) rfl rfl rfl ?_
 refine JL.step (y_assign rfl) rfl rfl rfl ?_
 refine JL.nil (JE.then_normal (J.block ?_))
 refine J.loop (α := Nat × Array Int) (fun s => a + 1 ≤ s.1 ∧ s.2.size = n ∧ Sort.insOuter Sort.ltInt a b s.1 s.2 = Sort.insertionSort Sort.ltInt d a b) (fun s => [(0, .slice (some ⟨g, 0, none⟩) n c), (1, .int .i64 a), (2, .int .i64 b), (6, .int .i64 s.1)]) (fun s => arI g s.2 sp :: r) (fun s => b - s.1) (a + 1, d) ⟨Nat.le_refl _, hn, rfl⟩ ⟨rfl, rfl, rfl, (congrArg (fun z => some (Value.int .i64 z)) (by first | omega | (dsimp only; omega))), trivial⟩ (fun w h => h) ?_
 rintro ⟨i, d1⟩ ⟨hi1, hs1, he1⟩
 try dsimp only at hi1 hs1 he1 ⊢
 refine J.seq (J.seq (J.region (JL.step (y_move rfl) rfl rfl rfl (JL.step (y_move rfl) rfl rfl rfl (JL.step (y_lss rfl rfl) rfl rfl rfl ?_)))))
 refine JL.nil (JE.then_normal ?_)
 first | apply J.cond_dec rfl | apply J.cond rfl
 case' ht =>
  intro h
  try (first | (exfalso; omega) | (cases h; done) | (exfalso; simp at h; done) | subst h)
  all_goals
   have hlt : i < b := by omega
   refine J.skip ?_
 case' hf =>
  intro h
  try (first | (exfalso; omega) | (cases h; done) | (exfalso; simp at h; done) | subst h)
  all_goals
   rw [insOuter_ge (by omega)] at he1
   refine J.exit (JE.then_exit (JE.then_exit (JE.block_exit ?_)))
   refine JE.ret0 (.inr rfl) rfl rfl  ?_
   exact ⟨rfl, fun w h => by rw [← he1]; exact h⟩
 all_goals refine JE.then_normal ?_
 all_goals
  refine J.seq (J.block (J.seq (J.region (JL.step (y_move rfl) rfl rfl rfl (JL.step (y_assign rfl) rfl rfl rfl ?_)))))
  refine JL.nil (JE.then_normal (J.block ?_))
  refine J.loop (α := Nat × Array Int) (fun s => a ≤ s.1 ∧ s.1 ≤ i ∧ s.2.size = n ∧ Sort.insInner Sort.ltInt a s.1 s.2 = Sort.insInner Sort.ltInt a i d1) (fun s => [(0, .slice (some ⟨g, 0, none⟩) n c), (1, .int .i64 a), (2, .int .i64 b), (6, .int .i64 i), (7, .int .i64 s.1)]) (fun s => arI g s.2 sp :: r) (fun s => s.1) (i, d1) ⟨by dsimp only; omega, Nat.le_refl _, hs1, rfl⟩ ⟨rfl, rfl, rfl, rfl, rfl, trivial⟩ (fun w h => h) ?_
  rintro ⟨j, d2⟩ ⟨hj1, hj2, hs2, he2⟩
  try dsimp only at hj1 hj2 hs2 he2 ⊢
  refine J.seq (J.seq ?_)
  by_cases hg : a < j
  all_goals
   refine J.draw _ _ [(0, .q), (1, .q), (2, .q), (3, .q), (4, .q), (5, .q), (6, .q), (7, .q), (8, .q), (9, .q), (10, .q), (11, .q), (12, .q), (13, .q), (14, .q)] mixed (by kernel_rfl) (Split.nil) ?_
   refine JM.quiet rfl rfl rfl rfl (fun m => y_move rfl) (JM.quiet rfl rfl rfl rfl (fun m => y_move rfl) ?_)
   first | refine JM.quiet rfl rfl rfl rfl (fun m => y_gtrB rfl rfl (decide_eq_true (by omega))) ?_ | refine JM.quiet rfl rfl rfl rfl (fun m => y_gtrB rfl rfl (decide_eq_false (by omega))) ?_
   refine JM.quiet rfl rfl rfl rfl (fun m => y_move rfl) ?_
   all_goals (first | refine JM.gskip rfl rfl rfl rfl rfl rfl rfl ?_ | refine JM.gskipU rfl rfl rfl rfl rfl rfl ?_ | refine JM.gquiet rfl rfl rfl rfl rfl rfl (fun m => y_move rfl) ?_)
   all_goals (first | refine JM.gskip rfl rfl rfl rfl rfl rfl rfl ?_ | refine JM.gskipU rfl rfl rfl rfl rfl rfl ?_ | refine JM.gquiet rfl rfl rfl rfl rfl rfl (fun m => y_move rfl) ?_)
   all_goals (first | refine JM.gskip rfl rfl rfl rfl rfl rfl rfl ?_ | refine JM.gskipU rfl rfl rfl rfl rfl rfl ?_ | refine JM.gquiet rfl rfl rfl rfl rfl rfl (fun m => y_indexAddr_slice hT rfl rfl rfl rfl rfl (by (first | omega | exact Nat.le_of_ble_eq_true rfl | decide | (simp; omega))) (by (first | omega | exact Nat.le_of_ble_eq_true rfl | decide | (simp; omega)))) ?_)
   all_goals (first | refine JM.gskip rfl rfl rfl rfl rfl rfl rfl ?_ | refine JM.gskipU rfl rfl rfl rfl rfl rfl ?_ | refine JM.gquiet rfl rfl rfl rfl rfl rfl (fun m => y_load1 hT rfl rfl rfl (Rd1.arr (i := (j)) (Pick.app m (by (repeat (first | exact Pick.head | apply Pick.tail | apply Pick.app)))) (by (first | assumption | omega | (simp only [Array.size_setIfInBounds]; omega))) (by exact arr_off rfl (by omega)))) ?_)
   all_goals (first | refine JM.gskip rfl rfl rfl rfl rfl rfl rfl ?_ | refine JM.gskipU rfl rfl rfl rfl rfl rfl ?_ | refine JM.gquiet rfl rfl rfl rfl rfl rfl (fun m => y_move rfl) ?_)
   all_goals (first | refine JM.gskip rfl rfl rfl rfl rfl rfl rfl ?_ | refine JM.gskipU rfl rfl rfl rfl rfl rfl ?_ | refine JM.gquiet rfl rfl rfl rfl rfl rfl (fun m => y_move rfl) ?_)
   all_goals (first | refine JM.gskip rfl rfl rfl rfl rfl rfl rfl ?_ | refine JM.gskipU rfl rfl rfl rfl rfl rfl ?_ | refine JM.gquiet rfl rfl rfl rfl rfl rfl (fun m => y_sub rfl rfl (by (first | exact wrap_i64 (by omega) (by omega) | rfl))) ?_)
   all_goals (first | refine JM.gskip rfl rfl rfl rfl rfl rfl rfl ?_ | refine JM.gskipU rfl rfl rfl rfl rfl rfl ?_ | refine JM.gquiet rfl rfl rfl rfl rfl rfl (fun m => y_indexAddr_slice hT rfl rfl rfl rfl rfl (by (first | omega | exact Nat.le_of_ble_eq_true rfl | decide | (simp; omega))) (by (first | omega | exact Nat.le_of_ble_eq_true rfl | decide | (simp; omega)))) ?_)
   all_goals (first | refine JM.gskip rfl rfl rfl rfl rfl rfl rfl ?_ | refine JM.gskipU rfl rfl rfl rfl rfl rfl ?_ | refine JM.gquiet rfl rfl rfl rfl rfl rfl (fun m => y_load1 hT rfl rfl rfl (Rd1.arr (i := (j - 1)) (Pick.app m (by (repeat (first | exact Pick.head | apply Pick.tail | apply Pick.app)))) (by (first | assumption | omega | (simp only [Array.size_setIfInBounds]; omega))) (by exact arr_off rfl (by omega)))) ?_)
   all_goals (first | refine JM.gskip rfl rfl rfl rfl rfl rfl rfl ?_ | refine JM.gskipU rfl rfl rfl rfl rfl rfl ?_ | refine JM.gquiet rfl rfl rfl rfl rfl rfl (fun m => y_callF e112 rfl (lessI E _ _ _)) ?_)
   all_goals refine JM.quiet rfl rfl rfl rfl (fun m => y_pick rfl rfl rfl) ?_
   all_goals refine JM.nil ?_
  all_goals refine JE.then_normal ?_
  all_goals
   first | apply J.cond_dec rfl | apply J.cond rfl
   case' ht =>
    intro h
    try (first | (exfalso; omega) | (cases h; done) | (exfalso; simp at h; done) | subst h)
    all_goals
     rw [insInner_go hg h] at he2
     refine J.skip ?_
   case' hf =>
    intro h
    try (first | (exfalso; omega) | (cases h; done) | (exfalso; simp at h; done) | subst h)
    all_goals
     rw [insInner_stop (by first | exact .inl (by omega) | exact .inr h)] at he2
     refine J.exit (JE.then_exit (JE.then_exit (JE.block_exit (JE.block_normal (JE.then_normal (J.region (JL.step (y_move rfl) rfl rfl rfl ?_)))))))
     refine JL.step (y_add rfl rfl (by (first | exact wrap_i64 (by omega) (by omega) | rfl))) rfl rfl rfl ?_
     refine JL.step (y_assign rfl) rfl rfl rfl ?_
     refine JL.nil ?_
     exact JE.round (s := (i, d1)) (i + 1, Sort.insInner Sort.ltInt a i d1) ⟨by dsimp only; omega, by dsimp only; rw [← he2]; exact hs2, by dsimp only; rw [← insOuter_lt hlt]; exact he1⟩ ⟨rfl, rfl, rfl, (congrArg (fun z => some (Value.int .i64 z)) (by first | omega | (dsimp only; omega))), trivial⟩ (fun w h => by rw [← he2]; exact h) (by dsimp only; omega)
  all_goals refine JE.then_normal ?_
  all_goals
   refine J.seq (J.block ?_)
   refine J.draw _ _ [(0, .q), (1, .q), (2, .q), (3, .q), (4, .q), (5, .q), (6, .q), (7, .q), (8, .q), (10, .q), (11, .q), (12, .q), (9, .e), (13, .e), (14, .q), (15, .l), (16, .q), (17, .l)] mixed (by kernel_rfl) (Split.cons (Pick.head) (Split.nil)) ?_
   refine JM.quiet rfl rfl rfl rfl (fun m => y_move rfl) (JM.quiet rfl rfl rfl rfl (fun m => y_move rfl) (JM.quiet rfl rfl rfl rfl (fun m => y_move rfl) (JM.quiet rfl rfl rfl rfl (fun m => y_move rfl) ?_)))
   refine JM.quiet rfl rfl rfl rfl (fun m => y_sub rfl rfl (by (first | exact wrap_i64 (by omega) (by omega) | rfl))) ?_
   refine JM.quiet rfl rfl rfl rfl (fun m => y_move rfl) (JM.quiet rfl rfl rfl rfl (fun m => y_move rfl) ?_)
   refine JM.quiet rfl rfl rfl rfl (fun m => y_sub rfl rfl (by (first | exact wrap_i64 (by omega) (by omega) | rfl))) ?_
   refine JM.quiet rfl rfl rfl rfl (fun m => y_indexAddr_slice hT rfl rfl rfl rfl rfl (by (first | omega | exact Nat.le_of_ble_eq_true rfl | decide | (simp; omega))) (by (first | omega | exact Nat.le_of_ble_eq_true rfl | decide | (simp; omega)))) ?_
   refine JM.quiet rfl rfl rfl rfl (fun m => y_move rfl) (JM.quiet rfl rfl rfl rfl (fun m => y_move rfl) ?_)
   refine JM.quiet rfl rfl rfl rfl (fun m => y_indexAddr_slice hT rfl rfl rfl rfl rfl (by (first | omega | exact Nat.le_of_ble_eq_true rfl | decide | (simp; omega))) (by (first | omega | exact Nat.le_of_ble_eq_true rfl | decide | (simp; omega)))) ?_
   refine JM.early rfl rfl rfl rfl (fun fr => y_load1 hT rfl rfl rfl (Rd1.arr (i := (j - 1)) (by (repeat (first | exact Pick.head | apply Pick.tail | apply Pick.app))) (by (first | assumption | omega | (simp only [Array.size_setIfInBounds]; omega))) (by exact arr_off rfl (by omega)))) ?_
   refine JM.early rfl rfl rfl rfl (fun fr => y_load1 hT rfl rfl rfl (Rd1.arr (i := (j)) (by (repeat (first | exact Pick.head | apply Pick.tail | apply Pick.app))) (by (first | assumption | omega | (simp only [Array.size_setIfInBounds]; omega))) (by exact arr_off rfl (by omega)))) ?_
   refine JM.quiet rfl rfl rfl rfl (fun m => y_indexAddr_slice hT rfl rfl rfl rfl rfl (by (first | omega | exact Nat.le_of_ble_eq_true rfl | decide | (simp; omega))) (by (first | omega | exact Nat.le_of_ble_eq_true rfl | decide | (simp; omega)))) ?_
   refine JM.loud rfl rfl (fun fr => l_storeArr (j := (j)) (u := d2[j - 1]!) hT rfl rfl rfl rfl (fun _ => rfl) (by (repeat (first | exact Pick.head | apply Pick.tail | apply Pick.app))) (by (first | assumption | omega | (simp only [Array.size_setIfInBounds]; omega))) (by exact arr_off rfl (by omega)) (⟨[_], (by (repeat (first | exact Split.nil | exact Split.all | refine Split.cons Pick.head ?_))), ?_⟩))
   refine JM.quiet rfl rfl rfl rfl (fun m => y_indexAddr_slice hT rfl rfl rfl rfl rfl (by (first | omega | exact Nat.le_of_ble_eq_true rfl | decide | (simp; omega))) (by (first | omega | exact Nat.le_of_ble_eq_true rfl | decide | (simp; omega)))) ?_
   refine JM.loud rfl rfl (fun fr => l_storeArr (j := (j - 1)) (u := d2[j]!) hT rfl rfl rfl rfl (fun _ => rfl) (by (repeat (first | exact Pick.head | apply Pick.tail | apply Pick.app))) (by (first | assumption | omega | (simp only [Array.size_setIfInBounds]; omega))) (by exact arr_off rfl (by omega)) (⟨[_], (by (repeat (first | exact Split.nil | exact Split.all | refine Split.cons Pick.head ?_))), ?_⟩))
   refine JM.nil (JE.block_normal (JE.then_normal (J.region (JL.step (y_move rfl) rfl rfl rfl ?_))))
   refine JL.step (y_sub rfl rfl (by (first | exact wrap_i64 (by omega) (by omega) | rfl))) rfl rfl rfl ?_
   refine JL.step (y_assign rfl) rfl rfl rfl ?_
   refine JL.nil ?_
  all_goals
   exact JE.round (s := (j, d2)) (j - 1, Sort.swp d2 j (j - 1)) ⟨by dsimp only; omega, by dsimp only; omega, by dsimp only; rw [swp_size]; exact hs2, he2⟩ ⟨rfl, rfl, rfl, rfl, (congrArg (fun z => some (Value.int .i64 z)) (by first | omega | (dsimp only; omega))), trivial⟩ (fun w h => h) (by dsimp only; omega)
end
end
section
open Go Go.SL
section
attribute [local irreducible] J JL JE JM LS Y Fc RV Code.wp wpList Code.wpIn wpListIn
attribute [local irreducible] Yc
attribute [local irreducible] Sort.ltInt
variable (E : World)
theorem revI (g c n a b : Nat) (ia ib : Int) (d : Array Int) (sp : List Value) (r : List HProp) (ea : ia = a) (eb : ib = b) (hn : d.size = n) (hab : a < b) (hb : b ≤ n) (h63 : n < 4611686018427387904) :
 Fc prog E 110 [.slice (some ⟨g, 0, none⟩) n c, .int .i64 ia, .int .i64 ib].toArray (arI g d sp :: r) (fun v l' => v = .tuple #[] ∧ l' = arI g (Sort.reverseRange d a b) sp :: r) := by
 refine Fc.eqs ?_
 subst ea eb
 refine Fc.of_body (c := ?codeC) Tryd.func110 ?hb Tryd.ntmps110 ?hl ?_
 case hb => exact rfl
 case hl => exact rfl
 refine J.seq (J.region (JL.step (y_move rfl) rfl rfl rfl (JL.step (y_assign rfl) rfl rfl rfl ?_)))
 refine JL.nil (JE.then_normal (J.seq (J.region (JL.step (y_move rfl) rfl rfl rfl ?_))))
 refine JL.step (y_sub rfl rfl (by (first | exact wrap_i64 (by omega) (by omega) | rfl))) rfl rfl rfl ?_
 refine JL.step (y_assign rfl) rfl rfl rfl ?_
 refine JL.nil (JE.then_normal (J.block ?_))
 refine J.loop (α := Nat × Nat × Array Int) (fun s => s.1 ≤ b ∧ s.2.1 < b ∧ s.2.2.size = n ∧ Sort.reverseLoop s.1 s.2.1 s.2.2 = Sort.reverseRange d a b) (fun s => [(0, .slice (some ⟨g, 0, none⟩) n c), (6, .int .i64 s.1), (7, .int .i64 s.2.1)]) (fun s => arI g s.2.2 sp :: r) (fun s => s.2.1 - s.1) (a, b - 1, d) ⟨by dsimp only; omega, by dsimp only; omega, hn, rfl⟩ ⟨rfl, rfl, (congrArg (fun z => some (Value.int .i64 z)) (by first | omega | (dsimp only; omega))), trivial⟩ (fun w h => h) ?_
 rintro ⟨i, j, d1⟩ ⟨hi1, hj1, hs1, he1⟩
 try dsimp only at hi1 hj1 hs1 he1 ⊢
 refine J.seq (J.seq (J.region (JL.step (y_move rfl) rfl rfl rfl (JL.step (y_move rfl) rfl rfl rfl (JL.step (y_lss rfl rfl) rfl rfl rfl ?_)))))
 refine JL.nil (JE.then_normal ?_)
 first | apply J.cond_dec rfl | apply J.cond rfl
 case' ht =>
  intro h
  try (first | (exfalso; omega) | (cases h; done) | (exfalso; simp at h; done) | subst h)
  all_goals
   rw [reverseLoop_lt (by omega)] at he1
   refine J.skip ?_
 case' hf =>
  intro h
  try (first | (exfalso; omega) | (cases h; done) | (exfalso; simp at h; done) | subst h)
  all_goals
   rw [reverseLoop_ge (by omega)] at he1
   refine J.exit (JE.then_exit (JE.then_exit (JE.block_exit ?_)))
   refine JE.ret0 (.inr rfl) rfl rfl  ?_
   exact ⟨rfl, fun w h => by rw [← he1]; exact h⟩
 all_goals refine JE.then_normal ?_
 all_goals
  refine J.block (J.seq ?_)
  refine J.draw _ _ [(0, .q), (1, .q), (2, .q), (3, .q), (4, .q), (5, .q), (6, .q), (8, .q), (9, .q), (10, .q), (7, .e), (11, .e), (12, .q), (13, .l), (14, .q), (15, .l)] mixed (by kernel_rfl) (Split.cons (Pick.head) (Split.nil)) ?_
  refine JM.quiet rfl rfl rfl rfl (fun m => y_move rfl) (JM.quiet rfl rfl rfl rfl (fun m => y_move rfl) (JM.quiet rfl rfl rfl rfl (fun m => y_move rfl) (JM.quiet rfl rfl rfl rfl (fun m => y_move rfl) (JM.quiet rfl rfl rfl rfl (fun m => y_move rfl) (JM.quiet rfl rfl rfl rfl (fun m => y_move rfl) ?_)))))
  refine JM.quiet rfl rfl rfl rfl (fun m => y_indexAddr_slice hT rfl rfl rfl rfl rfl (by (first | omega | exact Nat.le_of_ble_eq_true rfl | decide | (simp; omega))) (by (first | omega | exact Nat.le_of_ble_eq_true rfl | decide | (simp; omega)))) ?_
  refine JM.quiet rfl rfl rfl rfl (fun m => y_move rfl) (JM.quiet rfl rfl rfl rfl (fun m => y_move rfl) ?_)
  refine JM.quiet rfl rfl rfl rfl (fun m => y_indexAddr_slice hT rfl rfl rfl rfl rfl (by (first | omega | exact Nat.le_of_ble_eq_true rfl | decide | (simp; omega))) (by (first | omega | exact Nat.le_of_ble_eq_true rfl | decide | (simp; omega)))) ?_
  refine JM.early rfl rfl rfl rfl (fun fr => y_load1 hT rfl rfl rfl (Rd1.arr (i := (j)) (by (repeat (first | exact Pick.head | apply Pick.tail | apply Pick.app))) (by (first | assumption | omega | (simp only [Array.size_setIfInBounds]; omega))) (by exact arr_off rfl (by omega)))) ?_
  refine JM.early rfl rfl rfl rfl (fun fr => y_load1 hT rfl rfl rfl (Rd1.arr (i := (i)) (by (repeat (first | exact Pick.head | apply Pick.tail | apply Pick.app))) (by (first | assumption | omega | (simp only [Array.size_setIfInBounds]; omega))) (by exact arr_off rfl (by omega)))) ?_
  refine JM.quiet rfl rfl rfl rfl (fun m => y_indexAddr_slice hT rfl rfl rfl rfl rfl (by (first | omega | exact Nat.le_of_ble_eq_true rfl | decide | (simp; omega))) (by (first | omega | exact Nat.le_of_ble_eq_true rfl | decide | (simp; omega)))) ?_
  refine JM.loud rfl rfl (fun fr => l_storeArr (j := (i)) (u := d1[j]!) hT rfl rfl rfl rfl (fun _ => rfl) (by (repeat (first | exact Pick.head | apply Pick.tail | apply Pick.app))) (by (first | assumption | omega | (simp only [Array.size_setIfInBounds]; omega))) (by exact arr_off rfl (by omega)) (⟨[_], (by (repeat (first | exact Split.nil | exact Split.all | refine Split.cons Pick.head ?_))), ?_⟩))
  refine JM.quiet rfl rfl rfl rfl (fun m => y_indexAddr_slice hT rfl rfl rfl rfl rfl (by (first | omega | exact Nat.le_of_ble_eq_true rfl | decide | (simp; omega))) (by (first | omega | exact Nat.le_of_ble_eq_true rfl | decide | (simp; omega)))) ?_
  refine JM.loud rfl rfl (fun fr => l_storeArr (j := (j)) (u := d1[i]!) hT rfl rfl rfl rfl (fun _ => rfl) (by (repeat (first | exact Pick.head | apply Pick.tail | apply Pick.app))) (by (first | assumption | omega | (simp only [Array.size_setIfInBounds]; omega))) (by exact arr_off rfl (by omega)) (⟨[_], (by (repeat (first | exact Split.nil | exact Split.all | refine Split.cons Pick.head ?_))), ?_⟩))
  refine JM.nil (JE.then_normal (J.seq (J.region (JL.step (y_move rfl) rfl rfl rfl ?_))))
  refine JL.step (y_add rfl rfl (by (first | exact wrap_i64 (by omega) (by omega) | rfl))) rfl rfl rfl ?_
  refine JL.step (y_assign rfl) rfl rfl rfl ?_
  refine JL.nil (JE.then_normal (J.region (JL.step (y_move rfl) rfl rfl rfl ?_)))
  refine JL.step (y_sub rfl rfl (by (first | exact wrap_i64 (by omega) (by omega) | rfl))) rfl rfl rfl ?_
  refine JL.step (y_assign rfl) rfl rfl rfl ?_
  refine JL.nil (JE.block_normal ?_)
 all_goals
  exact JE.round (s := (i, j, d1)) (i + 1, j - 1, Sort.swp d1 i j) ⟨by dsimp only; omega, by dsimp only; omega, by dsimp only; rw [swp_size]; exact hs1, he1⟩ ⟨rfl, (congrArg (fun z => some (Value.int .i64 z)) (by first | omega | (dsimp only; omega))), (congrArg (fun z => some (Value.int .i64 z)) (by first | omega | (dsimp only; omega))), trivial⟩ (fun w h => h) (by dsimp only; omega)
theorem siftI (g c n root hi first : Nat) (ir ih jf : Int) (d : Array Int) (sp : List Value) (r : List HProp) (er : ir = root) (eh : ih = hi) (ef : jf = first) (hn : d.size = n) (hr : root ≤ n) (hf : first + hi ≤ n) (h63 : n < 4611686018427387904) :
 Fc prog E 130 [.slice (some ⟨g, 0, none⟩) n c, .int .i64 ir, .int .i64 ih, .int .i64 jf].toArray (arI g d sp :: r) (fun v l' => v = .tuple #[] ∧ l' = arI g (Sort.siftDown Sort.ltInt hi first root d) sp :: r) := by
 refine Fc.eqs ?_
 subst er eh ef
 refine Fc.of_body (c := ?codeC) Tryd.func130 ?hb Tryd.ntmps130 ?hl ?_
 case hb => exact rfl
 case hl => exact rfl
 refine J.seq (J.region (JL.step (y_move rfl) rfl rfl rfl (JL.step (y_assign rfl) rfl rfl rfl ?_)))
 refine JL.nil (JE.then_normal (J.block ?_))
 refine J.loop (α := Nat × Array Int) (fun s => s.1 ≤ n ∧ s.2.size = n ∧ Sort.siftDown Sort.ltInt hi first s.1 s.2 = Sort.siftDown Sort.ltInt hi first root d) (fun s => [(0, .slice (some ⟨g, 0, none⟩) n c), (2, .int .i64 hi), (3, .int .i64 first), (8, .int .i64 s.1)]) (fun s => arI g s.2 sp :: r) (fun s => hi - s.1) (root, d) ⟨hr, hn, rfl⟩ ⟨rfl, rfl, rfl, rfl, trivial⟩ (fun w h => h) ?_
 rintro ⟨rt, d1⟩ ⟨hi1, hs1, he1⟩
 try dsimp only at hi1 hs1 he1 ⊢
 refine J.block (J.seq (J.region (JL.step (y_move rfl) rfl rfl rfl ?_)))
 refine JL.step (y_mul rfl rfl (by (first | exact wrap_i64 (by omega) (by omega) | rfl))) rfl rfl rfl ?_
 refine JL.step (y_add rfl rfl (by (first | exact wrap_i64 (by omega) (by omega) | rfl))) rfl rfl rfl ?_
 refine JL.step (y_assign rfl) rfl rfl rfl ?_
 refine JL.nil (JE.then_normal (J.seq (J.seq (J.region (JL.step (y_move rfl) rfl rfl rfl (JL.step (y_move rfl) rfl rfl rfl (JL.step (y_geq rfl rfl) rfl rfl rfl ?_)))))))
 refine JL.nil (JE.then_normal ?_)
 first | apply J.cond_dec rfl | apply J.cond rfl
 case' ht =>
  intro h
  try (first | (exfalso; omega) | (cases h; done) | (exfalso; simp at h; done) | subst h)
  all_goals
   rw [siftDown_stop (by omega)] at he1
   refine J.exit (JE.then_exit ?_)
   refine JE.block_past rfl ?_
   refine JE.then_exit (JE.block_exit ?_)
   refine JE.ret0 (.inr rfl) rfl rfl  ?_
   exact ⟨rfl, fun w h => by rw [← he1]; exact h⟩
 case' hf =>
  intro h
  try (first | (exfalso; omega) | (cases h; done) | (exfalso; simp at h; done) | subst h)
  all_goals
   rw [siftDown_eq (by omega)] at he1
   refine J.skip ?_
 all_goals refine JE.then_normal ?_
 all_goals
  refine J.seqK (α := Nat) (fun cc => sdChild Sort.ltInt hi first rt d1 = cc ∧ cc < hi ∧ rt < cc) (fun cc => [(0, .slice (some ⟨g, 0, none⟩) n c), (2, .int .i64 hi), (3, .int .i64 first), (8, .int .i64 rt), (9, .int .i64 cc)]) (fun cc => arI g d1 sp :: r) ?hj5 (fun hk5 => ?hf5)
  case hf5 =>
   refine J.seq ?_
   by_cases hg : 2 * rt + 1 + 1 < hi
   all_goals
    refine J.draw _ _ [(0, .q), (1, .q), (2, .q), (3, .q), (4, .q), (5, .q), (6, .q), (7, .q), (8, .q), (9, .q), (10, .q), (11, .q), (12, .q), (13, .q), (14, .q), (15, .q), (16, .q), (17, .q), (18, .q), (19, .q)] mixed (by kernel_rfl) (Split.nil) ?_
    refine JM.quiet rfl rfl rfl rfl (fun m => y_move rfl) ?_
    refine JM.quiet rfl rfl rfl rfl (fun m => y_add rfl rfl (by (first | exact wrap_i64 (by omega) (by omega) | rfl))) ?_
    refine JM.quiet rfl rfl rfl rfl (fun m => y_move rfl) ?_
    first | refine JM.quiet rfl rfl rfl rfl (fun m => y_lssB rfl rfl (decide_eq_true (by omega))) ?_ | refine JM.quiet rfl rfl rfl rfl (fun m => y_lssB rfl rfl (decide_eq_false (by omega))) ?_
    refine JM.quiet rfl rfl rfl rfl (fun m => y_move rfl) ?_
    all_goals (first | refine JM.gskip rfl rfl rfl rfl rfl rfl rfl ?_ | refine JM.gskipU rfl rfl rfl rfl rfl rfl ?_ | refine JM.gquiet rfl rfl rfl rfl rfl rfl (fun m => y_move rfl) ?_)
    all_goals (first | refine JM.gskip rfl rfl rfl rfl rfl rfl rfl ?_ | refine JM.gskipU rfl rfl rfl rfl rfl rfl ?_ | refine JM.gquiet rfl rfl rfl rfl rfl rfl (fun m => y_move rfl) ?_)
    all_goals (first | refine JM.gskip rfl rfl rfl rfl rfl rfl rfl ?_ | refine JM.gskipU rfl rfl rfl rfl rfl rfl ?_ | refine JM.gquiet rfl rfl rfl rfl rfl rfl (fun m => y_move rfl) ?_)
    all_goals (first | refine JM.gskip rfl rfl rfl rfl rfl rfl rfl ?_ | refine JM.gskipU rfl rfl rfl rfl rfl rfl ?_ | refine JM.gquiet rfl rfl rfl rfl rfl rfl (fun m => y_add rfl rfl (by (first | exact wrap_i64 (by omega) (by omega) | rfl))) ?_)
    all_goals (first | refine JM.gskip rfl rfl rfl rfl rfl rfl rfl ?_ | refine JM.gskipU rfl rfl rfl rfl rfl rfl ?_ | refine JM.gquiet rfl rfl rfl rfl rfl rfl (fun m => y_indexAddr_slice hT rfl rfl rfl rfl rfl (by (first | omega | exact Nat.le_of_ble_eq_true rfl | decide | (simp; omega))) (by (first | omega | exact Nat.le_of_ble_eq_true rfl | decide | (simp; omega)))) ?_)
    all_goals (first | refine JM.gskip rfl rfl rfl rfl rfl rfl rfl ?_ | refine JM.gskipU rfl rfl rfl rfl rfl rfl ?_ | refine JM.gquiet rfl rfl rfl rfl rfl rfl (fun m => y_load1 hT rfl rfl rfl (Rd1.arr (i := (first + (2 * rt + 1))) (Pick.app m (by (repeat (first | exact Pick.head | apply Pick.tail | apply Pick.app)))) (by (first | assumption | omega | (simp only [Array.size_setIfInBounds]; omega))) (by exact arr_off rfl (by omega)))) ?_)
    all_goals (first | refine JM.gskip rfl rfl rfl rfl rfl rfl rfl ?_ | refine JM.gskipU rfl rfl rfl rfl rfl rfl ?_ | refine JM.gquiet rfl rfl rfl rfl rfl rfl (fun m => y_move rfl) ?_)
    all_goals (first | refine JM.gskip rfl rfl rfl rfl rfl rfl rfl ?_ | refine JM.gskipU rfl rfl rfl rfl rfl rfl ?_ | refine JM.gquiet rfl rfl rfl rfl rfl rfl (fun m => y_move rfl) ?_)
    all_goals (first | refine JM.gskip rfl rfl rfl rfl rfl rfl rfl ?_ | refine JM.gskipU rfl rfl rfl rfl rfl rfl ?_ | refine JM.gquiet rfl rfl rfl rfl rfl rfl (fun m => y_move rfl) ?_)
    all_goals (first | refine JM.gskip rfl rfl rfl rfl rfl rfl rfl ?_ | refine JM.gskipU rfl rfl rfl rfl rfl rfl ?_ | refine JM.gquiet rfl rfl rfl rfl rfl rfl (fun m => y_add rfl rfl (by (first | exact wrap_i64 (by omega) (by omega) | rfl))) ?_)
    all_goals (first | refine JM.gskip rfl rfl rfl rfl rfl rfl rfl ?_ | refine JM.gskipU rfl rfl rfl rfl rfl rfl ?_ | refine JM.gquiet rfl rfl rfl rfl rfl rfl (fun m => y_add rfl rfl (by (first | exact wrap_i64 (by omega) (by omega) | rfl))) ?_)
    all_goals (first | refine JM.gskip rfl rfl rfl rfl rfl rfl rfl ?_ | refine JM.gskipU rfl rfl rfl rfl rfl rfl ?_ | refine JM.gquiet rfl rfl rfl rfl rfl rfl (fun m => y_indexAddr_slice hT rfl rfl rfl rfl rfl (by (first | omega | exact Nat.le_of_ble_eq_true rfl | decide | (simp; omega))) (by (first | omega | exact Nat.le_of_ble_eq_true rfl | decide | (simp; omega)))) ?_)
    all_goals (first | refine JM.gskip rfl rfl rfl rfl rfl rfl rfl ?_ | refine JM.gskipU rfl rfl rfl rfl rfl rfl ?_ | refine JM.gquiet rfl rfl rfl rfl rfl rfl (fun m => y_load1 hT rfl rfl rfl (Rd1.arr (i := (first + (2 * rt + 1) + 1)) (Pick.app m (by (repeat (first | exact Pick.head | apply Pick.tail | apply Pick.app)))) (by (first | assumption | omega | (simp only [Array.size_setIfInBounds]; omega))) (by exact arr_off rfl (by omega)))) ?_)
    all_goals (first | refine JM.gskip rfl rfl rfl rfl rfl rfl rfl ?_ | refine JM.gskipU rfl rfl rfl rfl rfl rfl ?_ | refine JM.gquiet rfl rfl rfl rfl rfl rfl (fun m => y_callF e112 rfl (lessI E _ _ _)) ?_)
    all_goals refine JM.quiet rfl rfl rfl rfl (fun m => y_pick rfl rfl rfl) ?_
    all_goals refine JM.nil ?_
   all_goals refine JE.then_normal ?_
   all_goals
    first | apply J.cond_dec rfl | apply J.cond rfl
    case' ht =>
     intro h
     try (first | (exfalso; omega) | (cases h; done) | (exfalso; simp at h; done) | subst h)
     all_goals
      refine J.region (JL.step (y_move rfl) rfl rfl rfl ?_)
      refine JL.step (y_add rfl rfl (by (first | exact wrap_i64 (by omega) (by omega) | rfl))) rfl rfl rfl ?_
      refine JL.step (y_assign rfl) rfl rfl rfl ?_
      refine JL.nil ?_
    case' hf =>
     intro h
     try (first | (exfalso; omega) | (cases h; done) | (exfalso; simp at h; done) | subst h)
     all_goals
      refine J.skip ?_
   all_goals refine JE.then_normal ?_
   all_goals
    first | exact J.closeK hk5 (2 * rt + 2) ⟨if_pos ⟨hg, h⟩, by omega, by omega⟩ ⟨rfl, rfl, rfl, rfl, (congrArg (fun z => some (Value.int .i64 z)) (by first | omega | (dsimp only; omega))), trivial⟩ (fun w h => h) | exact J.closeK hk5 (2 * rt + 1) ⟨if_neg (by first | exact fun q => absurd q.1 hg | (rw [h]; exact fun q => absurd q.2 (by decide))), by omega, by omega⟩ ⟨rfl, rfl, rfl, rfl, (congrArg (fun z => some (Value.int .i64 z)) (by first | omega | (dsimp only; omega))), trivial⟩ (fun w h => h)
  rintro cc ⟨hc1, hc2, hc3⟩
  rw [hc1] at he1
  refine J.seq (J.seq ?_)
  refine J.draw _ _ [(0, .q), (1, .q), (2, .q), (3, .q), (4, .q), (5, .q), (6, .q), (7, .q), (8, .q), (9, .q), (10, .q), (11, .q), (12, .q), (13, .q)] mixed (by kernel_rfl) (Split.nil) ?_
  refine JM.quiet rfl rfl rfl rfl (fun m => y_move rfl) (JM.quiet rfl rfl rfl rfl (fun m => y_move rfl) (JM.quiet rfl rfl rfl rfl (fun m => y_move rfl) ?_))
  refine JM.quiet rfl rfl rfl rfl (fun m => y_add rfl rfl (by (first | exact wrap_i64 (by omega) (by omega) | rfl))) ?_
  refine JM.quiet rfl rfl rfl rfl (fun m => y_indexAddr_slice hT rfl rfl rfl rfl rfl (by (first | omega | exact Nat.le_of_ble_eq_true rfl | decide | (simp; omega))) (by (first | omega | exact Nat.le_of_ble_eq_true rfl | decide | (simp; omega)))) ?_
  refine JM.quiet rfl rfl rfl rfl (fun m => y_load1 hT rfl rfl rfl (Rd1.arr (i := (first + rt)) (Pick.app m (by (repeat (first | exact Pick.head | apply Pick.tail | apply Pick.app)))) (by (first | assumption | omega | (simp only [Array.size_setIfInBounds]; omega))) (by exact arr_off rfl (by omega)))) ?_
  refine JM.quiet rfl rfl rfl rfl (fun m => y_move rfl) (JM.quiet rfl rfl rfl rfl (fun m => y_move rfl) (JM.quiet rfl rfl rfl rfl (fun m => y_move rfl) ?_))
  refine JM.quiet rfl rfl rfl rfl (fun m => y_add rfl rfl (by (first | exact wrap_i64 (by omega) (by omega) | rfl))) ?_
  refine JM.quiet rfl rfl rfl rfl (fun m => y_indexAddr_slice hT rfl rfl rfl rfl rfl (by (first | omega | exact Nat.le_of_ble_eq_true rfl | decide | (simp; omega))) (by (first | omega | exact Nat.le_of_ble_eq_true rfl | decide | (simp; omega)))) ?_
  refine JM.quiet rfl rfl rfl rfl (fun m => y_load1 hT rfl rfl rfl (Rd1.arr (i := (first + cc)) (Pick.app m (by (repeat (first | exact Pick.head | apply Pick.tail | apply Pick.app)))) (by (first | assumption | omega | (simp only [Array.size_setIfInBounds]; omega))) (by exact arr_off rfl (by omega)))) ?_
  refine JM.quiet rfl rfl rfl rfl (fun m => y_callF e112 rfl (lessI E _ _ _)) (JM.quiet rfl rfl rfl rfl (fun m => y_not rfl) ?_)
  refine JM.nil (JE.then_normal ?_)
  first | apply J.cond_dec rfl | apply J.cond rfl
  case' ht =>
   intro h
   try (first | (exfalso; omega) | (cases h; done) | (exfalso; simp at h; done) | subst h)
   all_goals
    rw [if_neg (by simpa using h)] at he1
    refine J.ret (JE.then_ret (JE.block_ret (JE.then_ret (JE.block_ret ?_))))
    refine JE.ret0 (.inl rfl) rfl rfl  ?_
    exact ⟨rfl, fun w h => by rw [← he1]; exact h⟩
  case' hf =>
   intro h
   try (first | (exfalso; omega) | (cases h; done) | (exfalso; simp at h; done) | subst h)
   all_goals
    rw [if_pos (by simpa using h)] at he1
    refine J.skip ?_
  all_goals refine JE.then_normal ?_
  all_goals
   refine J.seq ?_
   refine J.draw _ _ [(0, .q), (1, .q), (2, .q), (3, .q), (4, .q), (5, .q), (6, .q), (7, .q), (8, .q), (9, .q), (10, .q), (11, .q), (12, .q), (14, .q), (15, .q), (16, .q), (17, .q), (18, .q), (13, .e), (19, .e), (20, .q), (21, .l), (22, .q), (23, .l)] mixed (by kernel_rfl) (Split.cons (Pick.head) (Split.nil)) ?_
   refine JM.quiet rfl rfl rfl rfl (fun m => y_move rfl) (JM.quiet rfl rfl rfl rfl (fun m => y_move rfl) (JM.quiet rfl rfl rfl rfl (fun m => y_move rfl) ?_))
   refine JM.quiet rfl rfl rfl rfl (fun m => y_add rfl rfl (by (first | exact wrap_i64 (by omega) (by omega) | rfl))) ?_
   refine JM.quiet rfl rfl rfl rfl (fun m => y_move rfl) (JM.quiet rfl rfl rfl rfl (fun m => y_move rfl) (JM.quiet rfl rfl rfl rfl (fun m => y_move rfl) ?_))
   refine JM.quiet rfl rfl rfl rfl (fun m => y_add rfl rfl (by (first | exact wrap_i64 (by omega) (by omega) | rfl))) ?_
   refine JM.quiet rfl rfl rfl rfl (fun m => y_move rfl) (JM.quiet rfl rfl rfl rfl (fun m => y_move rfl) (JM.quiet rfl rfl rfl rfl (fun m => y_move rfl) ?_))
   refine JM.quiet rfl rfl rfl rfl (fun m => y_add rfl rfl (by (first | exact wrap_i64 (by omega) (by omega) | rfl))) ?_
   refine JM.quiet rfl rfl rfl rfl (fun m => y_indexAddr_slice hT rfl rfl rfl rfl rfl (by (first | omega | exact Nat.le_of_ble_eq_true rfl | decide | (simp; omega))) (by (first | omega | exact Nat.le_of_ble_eq_true rfl | decide | (simp; omega)))) ?_
   refine JM.quiet rfl rfl rfl rfl (fun m => y_move rfl) (JM.quiet rfl rfl rfl rfl (fun m => y_move rfl) (JM.quiet rfl rfl rfl rfl (fun m => y_move rfl) ?_))
   refine JM.quiet rfl rfl rfl rfl (fun m => y_add rfl rfl (by (first | exact wrap_i64 (by omega) (by omega) | rfl))) ?_
   refine JM.quiet rfl rfl rfl rfl (fun m => y_indexAddr_slice hT rfl rfl rfl rfl rfl (by (first | omega | exact Nat.le_of_ble_eq_true rfl | decide | (simp; omega))) (by (first | omega | exact Nat.le_of_ble_eq_true rfl | decide | (simp; omega)))) ?_
   refine JM.early rfl rfl rfl rfl (fun fr => y_load1 hT rfl rfl rfl (Rd1.arr (i := (first + cc)) (by (repeat (first | exact Pick.head | apply Pick.tail | apply Pick.app))) (by (first | assumption | omega | (simp only [Array.size_setIfInBounds]; omega))) (by exact arr_off rfl (by omega)))) ?_
   refine JM.early rfl rfl rfl rfl (fun fr => y_load1 hT rfl rfl rfl (Rd1.arr (i := (first + rt)) (by (repeat (first | exact Pick.head | apply Pick.tail | apply Pick.app))) (by (first | assumption | omega | (simp only [Array.size_setIfInBounds]; omega))) (by exact arr_off rfl (by omega)))) ?_
   refine JM.quiet rfl rfl rfl rfl (fun m => y_indexAddr_slice hT rfl rfl rfl rfl rfl (by (first | omega | exact Nat.le_of_ble_eq_true rfl | decide | (simp; omega))) (by (first | omega | exact Nat.le_of_ble_eq_true rfl | decide | (simp; omega)))) ?_
   refine JM.loud rfl rfl (fun fr => l_storeArr (j := (first + rt)) (u := d1[first + cc]!) hT rfl rfl rfl rfl (fun _ => rfl) (by (repeat (first | exact Pick.head | apply Pick.tail | apply Pick.app))) (by (first | assumption | omega | (simp only [Array.size_setIfInBounds]; omega))) (by exact arr_off rfl (by omega)) (⟨[_], (by (repeat (first | exact Split.nil | exact Split.all | refine Split.cons Pick.head ?_))), ?_⟩))
   refine JM.quiet rfl rfl rfl rfl (fun m => y_indexAddr_slice hT rfl rfl rfl rfl rfl (by (first | omega | exact Nat.le_of_ble_eq_true rfl | decide | (simp; omega))) (by (first | omega | exact Nat.le_of_ble_eq_true rfl | decide | (simp; omega)))) ?_
   refine JM.loud rfl rfl (fun fr => l_storeArr (j := (first + cc)) (u := d1[first + rt]!) hT rfl rfl rfl rfl (fun _ => rfl) (by (repeat (first | exact Pick.head | apply Pick.tail | apply Pick.app))) (by (first | assumption | omega | (simp only [Array.size_setIfInBounds]; omega))) (by exact arr_off rfl (by omega)) (⟨[_], (by (repeat (first | exact Split.nil | exact Split.all | refine Split.cons Pick.head ?_))), ?_⟩))
   refine JM.nil (JE.then_normal (J.region (JL.step (y_move rfl) rfl rfl rfl (JL.step (y_assign rfl) rfl rfl rfl ?_))))
   refine JL.nil ?_
 all_goals refine JE.block_normal ?_
 all_goals
  exact JE.round (s := (rt, d1)) (cc, Sort.swp d1 (first + rt) (first + cc)) ⟨by dsimp only; omega, by dsimp only; rw [swp_size]; exact hs1, he1⟩ ⟨rfl, rfl, rfl, rfl, trivial⟩ (fun w h => h) (by dsimp only; omega)
theorem heapI (g c n a b : Nat) (ia ib : Int) (d : Array Int) (sp : List Value) (r : List HProp) (ea : ia = a) (eb : ib = b) (hn : d.size = n) (hab : a < b) (hb : b ≤ n) (h63 : n < 4611686018427387904) :
 Fc prog E 107 [.slice (some ⟨g, 0, none⟩) n c, .int .i64 ia, .int .i64 ib].toArray (arI g d sp :: r) (fun v l' => v = .tuple #[] ∧ ∃ d', d' = Sort.heapSort Sort.ltInt d a b ∧ l' = arI g d' sp :: r) := by
 suffices hq : Fc prog E 107 [.slice (some ⟨g, 0, none⟩) n c, .int .i64 ia, .int .i64 ib].toArray (arI g d sp :: r) (fun v l' => v = .tuple #[] ∧ l' = arI g (Sort.heapSort Sort.ltInt d a b) sp :: r) from hq.mono fun v l' q => ⟨q.1, _, rfl, q.2⟩
 refine Fc.eqs ?_
 subst ea eb
 refine Fc.of_body (c := ?codeC) Tryd.func107 ?hb Tryd.ntmps107 ?hl ?_
 case hb => exact rfl
 case hl => exact rfl
 refine J.seq (J.region (JL.step (y_move rfl) rfl rfl rfl (JL.step (y_assign rfl) rfl rfl rfl ?_)))
 refine JL.nil (JE.then_normal (J.seq (J.region (JL.step (y_assign rfl) rfl rfl rfl ?_))))
 refine JL.nil (JE.then_normal (J.seq (J.region (JL.step (y_move rfl) rfl rfl rfl (JL.step (y_move rfl) rfl rfl rfl ?_)))))
 refine JL.step (y_sub rfl rfl (by (first | exact wrap_i64 (by omega) (by omega) | rfl))) rfl rfl rfl ?_
 refine JL.step (y_assign rfl) rfl rfl rfl ?_
 refine JL.nil (JE.then_normal (J.seq (J.seq (J.region (JL.step (y_move rfl) rfl rfl rfl ?_)))))
 refine JL.step (y_sub rfl rfl (by (first | exact wrap_i64 (by omega) (by omega) | rfl))) rfl rfl rfl ?_
 refine JL.step (y_quo rfl rfl (by decide) (quo_nat (x := b - a - 1) (k := 2) (by omega) (by omega))) rfl rfl rfl ?_
 refine JL.step (y_assign rfl) rfl rfl rfl ?_
 refine JL.nil (JE.then_normal (J.block ?_))
 refine J.loop (α := Nat × Array Int) (fun s => s.1 ≤ n ∧ s.2.size = n ∧ Sort.heapPop Sort.ltInt a (b - a) (Sort.heapBuild Sort.ltInt (b - a) a s.1 s.2) = Sort.heapSort Sort.ltInt d a b) (fun s => [(0, .slice (some ⟨g, 0, none⟩) n c), (6, .int .i64 a), (7, .int .i64 0), (8, .int .i64 ((b - a : Nat) : Int)), (9, .int .i64 ((s.1 : Int) - 1))]) (fun s => arI g s.2 sp :: r) (fun s => s.1) ((b - a - 1) / 2 + 1, d) ⟨by dsimp only; omega, hn, rfl⟩ ⟨rfl, rfl, rfl, (congrArg (fun z => some (Value.int .i64 z)) (by first | omega | (dsimp only; omega))), (congrArg (fun z => some (Value.int .i64 z)) (by first | omega | (dsimp only; omega))), trivial⟩ (fun w h => h) ?_
 rintro ⟨k, d1⟩ ⟨hi1, hs1, he1⟩
 try dsimp only at hi1 hs1 he1 ⊢
 refine J.seq (J.seq (J.region (JL.step (y_move rfl) rfl rfl rfl (JL.step (y_geq rfl rfl) rfl rfl rfl ?_))))
 refine JL.nil (JE.then_normal ?_)
 first | apply J.cond_dec rfl | apply J.cond rfl
 case' ht =>
  intro h
  try (first | (exfalso; omega) | (cases h; done) | (exfalso; simp at h; done) | subst h)
  all_goals
   obtain ⟨k, rfl⟩ : ∃ q, k = q + 1 := ⟨k - 1, by omega⟩
   have he1 : Sort.heapPop Sort.ltInt a (b - a) (Sort.heapBuild Sort.ltInt (b - a) a k (Sort.siftDown Sort.ltInt (b - a) a k d1)) = Sort.heapSort Sort.ltInt d a b := he1
   refine J.skip ?_
 case' hf =>
  intro h
  try (first | (exfalso; omega) | (cases h; done) | (exfalso; simp at h; done) | subst h)
  all_goals
   obtain rfl : k = 0 := by omega
   have he1 : Sort.heapPop Sort.ltInt a (b - a) d1 = Sort.heapSort Sort.ltInt d a b := he1
   refine J.exit (JE.then_exit (JE.then_exit (JE.block_exit (JE.then_normal (J.seq (J.region (JL.step (y_move rfl) rfl rfl rfl ?_)))))))
   refine JL.step (y_sub rfl rfl (by (first | exact wrap_i64 (by omega) (by omega) | rfl))) rfl rfl rfl ?_
   refine JL.step (y_assign rfl) rfl rfl rfl ?_
   refine JL.nil (JE.then_normal (J.block ?_))
   refine J.loop (α := Nat × Array Int) (fun s => s.1 ≤ b - a ∧ s.2.size = n ∧ Sort.heapPop Sort.ltInt a s.1 s.2 = Sort.heapSort Sort.ltInt d a b) (fun s => [(0, .slice (some ⟨g, 0, none⟩) n c), (6, .int .i64 a), (7, .int .i64 0), (8, .int .i64 ((b - a : Nat) : Int)), (10, .int .i64 ((s.1 : Int) - 1))]) (fun s => arI g s.2 sp :: r) (fun s => s.1) (b - a, d1) ⟨Nat.le_refl _, hs1, he1⟩ ⟨rfl, rfl, rfl, rfl, (congrArg (fun z => some (Value.int .i64 z)) (by first | omega | (dsimp only; omega))), trivial⟩ (fun w h => h) ?_
   rintro ⟨k, d2⟩ ⟨hi2, hs2, he2⟩
   try dsimp only at hi2 hs2 he2 ⊢
   refine J.seq (J.seq (J.region (JL.step (y_move rfl) rfl rfl rfl (JL.step (y_geq rfl rfl) rfl rfl rfl ?_))))
   refine JL.nil (JE.then_normal ?_)
   first | apply J.cond_dec rfl | apply J.cond rfl
   case' ht =>
    intro h
    try (first | (exfalso; omega) | (cases h; done) | (exfalso; simp at h; done) | subst h)
    all_goals
     obtain ⟨k, rfl⟩ : ∃ q, k = q + 1 := ⟨k - 1, by omega⟩
     have he2 : Sort.heapPop Sort.ltInt a k (Sort.siftDown Sort.ltInt k a 0 (Sort.swp d2 a (a + k))) = Sort.heapSort Sort.ltInt d a b := he2
     refine J.skip ?_
   case' hf =>
    intro h
    try (first | (exfalso; omega) | (cases h; done) | (exfalso; simp at h; done) | subst h)
    all_goals
     obtain rfl : k = 0 := by omega
     have he2 : d2 = Sort.heapSort Sort.ltInt d a b := he2
     refine J.exit (JE.then_exit (JE.then_exit (JE.block_exit ?_)))
     refine JE.ret0 (.inr rfl) rfl rfl  ?_
     exact ⟨rfl, fun w h => by rw [← he2]; exact h⟩
   all_goals refine JE.then_normal ?_
   all_goals
    refine J.seq (J.block (J.seq ?_))
    refine J.draw _ _ [(0, .q), (1, .q), (2, .q), (3, .q), (4, .q), (5, .q), (6, .q), (7, .q), (8, .q), (9, .q), (10, .q), (12, .q), (13, .q), (14, .q), (11, .e), (15, .e), (16, .q), (17, .l), (18, .q), (19, .l)] mixed (by kernel_rfl) (Split.cons (Pick.head) (Split.nil)) ?_
    refine JM.quiet rfl rfl rfl rfl (fun m => y_move rfl) (JM.quiet rfl rfl rfl rfl (fun m => y_move rfl) (JM.quiet rfl rfl rfl rfl (fun m => y_move rfl) (JM.quiet rfl rfl rfl rfl (fun m => y_move rfl) (JM.quiet rfl rfl rfl rfl (fun m => y_move rfl) ?_))))
    refine JM.quiet rfl rfl rfl rfl (fun m => y_add rfl rfl (by (first | exact wrap_i64 (by omega) (by omega) | rfl))) ?_
    refine JM.quiet rfl rfl rfl rfl (fun m => y_move rfl) (JM.quiet rfl rfl rfl rfl (fun m => y_move rfl) (JM.quiet rfl rfl rfl rfl (fun m => y_move rfl) ?_))
    refine JM.quiet rfl rfl rfl rfl (fun m => y_add rfl rfl (by (first | exact wrap_i64 (by omega) (by omega) | rfl))) ?_
    refine JM.quiet rfl rfl rfl rfl (fun m => y_indexAddr_slice hT rfl rfl rfl rfl rfl (by (first | omega | exact Nat.le_of_ble_eq_true rfl | decide | (simp; omega))) (by (first | omega | exact Nat.le_of_ble_eq_true rfl | decide | (simp; omega)))) ?_
    refine JM.quiet rfl rfl rfl rfl (fun m => y_move rfl) (JM.quiet rfl rfl rfl rfl (fun m => y_move rfl) ?_)
    refine JM.quiet rfl rfl rfl rfl (fun m => y_indexAddr_slice hT rfl rfl rfl rfl rfl (by (first | omega | exact Nat.le_of_ble_eq_true rfl | decide | (simp; omega))) (by (first | omega | exact Nat.le_of_ble_eq_true rfl | decide | (simp; omega)))) ?_
    refine JM.early rfl rfl rfl rfl (fun fr => y_load1 hT rfl rfl rfl (Rd1.arr (i := (a + k)) (by (repeat (first | exact Pick.head | apply Pick.tail | apply Pick.app))) (by (first | assumption | omega | (simp only [Array.size_setIfInBounds]; omega))) (by exact arr_off rfl (by omega)))) ?_
    refine JM.early rfl rfl rfl rfl (fun fr => y_load1 hT rfl rfl rfl (Rd1.arr (i := (a)) (by (repeat (first | exact Pick.head | apply Pick.tail | apply Pick.app))) (by (first | assumption | omega | (simp only [Array.size_setIfInBounds]; omega))) (by exact arr_off rfl (by omega)))) ?_
    refine JM.quiet rfl rfl rfl rfl (fun m => y_indexAddr_slice hT rfl rfl rfl rfl rfl (by (first | omega | exact Nat.le_of_ble_eq_true rfl | decide | (simp; omega))) (by (first | omega | exact Nat.le_of_ble_eq_true rfl | decide | (simp; omega)))) ?_
    refine JM.loud rfl rfl (fun fr => l_storeArr (j := (a)) (u := d2[a + k]!) hT rfl rfl rfl rfl (fun _ => rfl) (by (repeat (first | exact Pick.head | apply Pick.tail | apply Pick.app))) (by (first | assumption | omega | (simp only [Array.size_setIfInBounds]; omega))) (by exact arr_off rfl (by omega)) (⟨[_], (by (repeat (first | exact Split.nil | exact Split.all | refine Split.cons Pick.head ?_))), ?_⟩))
    refine JM.quiet rfl rfl rfl rfl (fun m => y_indexAddr_slice hT rfl rfl rfl rfl rfl (by (first | omega | exact Nat.le_of_ble_eq_true rfl | decide | (simp; omega))) (by (first | omega | exact Nat.le_of_ble_eq_true rfl | decide | (simp; omega)))) ?_
    refine JM.loud rfl rfl (fun fr => l_storeArr (j := (a + k)) (u := d2[a]!) hT rfl rfl rfl rfl (fun _ => rfl) (by (repeat (first | exact Pick.head | apply Pick.tail | apply Pick.app))) (by (first | assumption | omega | (simp only [Array.size_setIfInBounds]; omega))) (by exact arr_off rfl (by omega)) (⟨[_], (by (repeat (first | exact Split.nil | exact Split.all | refine Split.cons Pick.head ?_))), ?_⟩))
    refine JM.nil (JE.then_normal (J.region (JL.step (y_move rfl) rfl rfl rfl (JL.step (y_move rfl) rfl rfl rfl (JL.step (y_move rfl) rfl rfl rfl (JL.step (y_move rfl) rfl rfl rfl ?_))))))
    refine JL.loud rfl (l_callF e130 rfl rfl (Fc.on (Split.cons (by (repeat (first | exact Pick.head | apply Pick.tail | apply Pick.app))) Split.nil) (siftI E g c n 0 k a _ _ _ (Sort.swp d2 a (a + k)) sp _ rfl (by omega) rfl (by rw [swp_size]; exact hs2) (by omega) (by omega) h63)) ?_)
    rintro _ _ ⟨rfl, rfl⟩
    refine JL.nil (JE.block_normal (JE.then_normal (J.region (JL.step (y_move rfl) rfl rfl rfl ?_))))
    refine JL.step (y_sub rfl rfl (by (first | exact wrap_i64 (by omega) (by omega) | rfl))) rfl rfl rfl ?_
    refine JL.step (y_assign rfl) rfl rfl rfl ?_
    refine JL.nil ?_
   all_goals
    exact JE.round (s := (k + 1, d2)) (k, Sort.siftDown Sort.ltInt k a 0 (Sort.swp d2 a (a + k))) ⟨by dsimp only; omega, by dsimp only; rw [siftDown_size, swp_size]; exact hs2, he2⟩ ⟨rfl, rfl, rfl, rfl, (congrArg (fun z => some (Value.int .i64 z)) (by first | omega | (dsimp only; omega))), trivial⟩ (fun w h => h) (by dsimp only; omega)
 all_goals refine JE.then_normal ?_
 all_goals
  refine J.seq (J.block (J.region (JL.step (y_move rfl) rfl rfl rfl (JL.step (y_move rfl) rfl rfl rfl (JL.step (y_move rfl) rfl rfl rfl (JL.step (y_move rfl) rfl rfl rfl ?_))))))
  refine JL.loud rfl (l_callF e130 rfl rfl (Fc.on (Split.cons (by (repeat (first | exact Pick.head | apply Pick.tail | apply Pick.app))) Split.nil) (siftI E g c n k (b - a) a _ _ _ d1 sp _ (by omega) (by omega) rfl hs1 (by omega) (by omega) h63)) ?_)
  rintro _ _ ⟨rfl, rfl⟩
  refine JL.nil (JE.block_normal (JE.then_normal (J.region (JL.step (y_move rfl) rfl rfl rfl ?_))))
  refine JL.step (y_sub rfl rfl (by (first | exact wrap_i64 (by omega) (by omega) | rfl))) rfl rfl rfl ?_
  refine JL.step (y_assign rfl) rfl rfl rfl ?_
  refine JL.nil ?_
 all_goals
  exact JE.round (s := (k + 1, d1)) (k, Sort.siftDown Sort.ltInt (b - a) a k d1) ⟨by dsimp only; omega, by dsimp only; rw [siftDown_size]; exact hs1, he1⟩ ⟨rfl, rfl, rfl, rfl, (congrArg (fun z => some (Value.int .i64 z)) (by first | omega | (dsimp only; omega))), trivial⟩ (fun w h => h) (by dsimp only; omega)
end
end
section
open Go Go.SL
section
attribute [local irreducible] J JL JE JM LS Y Fc RV Code.wp wpList Code.wpIn wpListIn
attribute [local irreducible] Yc
attribute [local irreducible] Sort.ltInt
variable (E : World)
theorem order2I (g c n a b s : Nat) (ia ib : Int) (d : Array Int) (sp : List Value) (z : Int) (r : List HProp) (ea : ia = a) (eb : ib = b) (hn : d.size = n) (ha : a < n) (hb : b < n) (h63 : n < 4611686018427387904) :
 Fc prog E 137 [.slice (some ⟨g, 0, none⟩) n c, .int .i64 ia, .int .i64 ib, .pointer (some ⟨s, 0, none⟩)].toArray (arI g d sp :: row s 3 [.int .i64 z] :: r) (fun v l' => ∃ (x y : Nat) (z' : Int), v = .tuple #[.int .i64 x, .int .i64 y] ∧ (x = a ∧ y = b ∨ x = b ∧ y = a) ∧ l' = arI g d sp :: row s 3 [.int .i64 z'] :: r) := by
 refine Fc.post ?_
 subst ea eb
 refine Fc.of_body (c := ?codeC) Tryd.func137 ?hb Tryd.ntmps137 ?hl ?_
 case hb => exact rfl
 case hl => exact rfl
 refine J.seq (J.region (JL.step (y_assign rfl) rfl rfl rfl (JL.step (y_assign rfl) rfl rfl rfl ?_)))
 refine JL.nil (JE.then_normal (J.seq (J.seq ?_)))
 refine J.draw _ _ [(0, .q), (1, .q), (2, .q), (3, .q), (4, .q), (5, .q), (6, .q), (7, .q), (8, .q)] mixed (by kernel_rfl) (Split.nil) ?_
 refine JM.quiet rfl rfl rfl rfl (fun m => y_move rfl) (JM.quiet rfl rfl rfl rfl (fun m => y_move rfl) ?_)
 refine JM.quiet rfl rfl rfl rfl (fun m => y_indexAddr_slice hT rfl rfl rfl rfl rfl (by (first | omega | exact Nat.le_of_ble_eq_true rfl | decide | (simp; omega))) (by (first | omega | exact Nat.le_of_ble_eq_true rfl | decide | (simp; omega)))) ?_
 refine JM.quiet rfl rfl rfl rfl (fun m => y_load1 hT rfl rfl rfl (Rd1.arr (i := (b)) (Pick.app m (by (repeat (first | exact Pick.head | apply Pick.tail | apply Pick.app)))) (by (first | assumption | omega | (simp only [Array.size_setIfInBounds]; omega))) (by exact arr_off rfl (by omega)))) ?_
 refine JM.quiet rfl rfl rfl rfl (fun m => y_move rfl) (JM.quiet rfl rfl rfl rfl (fun m => y_move rfl) ?_)
 refine JM.quiet rfl rfl rfl rfl (fun m => y_indexAddr_slice hT rfl rfl rfl rfl rfl (by (first | omega | exact Nat.le_of_ble_eq_true rfl | decide | (simp; omega))) (by (first | omega | exact Nat.le_of_ble_eq_true rfl | decide | (simp; omega)))) ?_
 refine JM.quiet rfl rfl rfl rfl (fun m => y_load1 hT rfl rfl rfl (Rd1.arr (i := (a)) (Pick.app m (by (repeat (first | exact Pick.head | apply Pick.tail | apply Pick.app)))) (by (first | assumption | omega | (simp only [Array.size_setIfInBounds]; omega))) (by exact arr_off rfl (by omega)))) ?_
 refine JM.quiet rfl rfl rfl rfl (fun m => y_callF e112 rfl (lessI E _ _ _)) ?_
 refine JM.nil (JE.then_normal ?_)
 first | apply J.cond_dec rfl | apply J.cond rfl
 case' ht =>
  intro h
  try (first | (exfalso; omega) | (cases h; done) | (exfalso; simp at h; done) | subst h)
  all_goals
   refine J.seq (J.region (JL.step (y_move rfl) rfl rfl rfl ?_))
   refine JL.step ((by first | exact y_nilCheck rfl | exact y_nilCheckF rfl | exact y_nilCheckY rfl)) rfl rfl rfl ?_
   refine JL.step (y_load1 hT rfl rfl rfl (by (exact Rd1.row (by (repeat (first | exact Pick.head | apply Pick.tail | apply Pick.app))) (by rfl)))) rfl rfl rfl ?_
   refine JL.step (y_add rfl rfl (by (first | exact wrap_i64 (by omega) (by omega) | rfl))) rfl rfl rfl ?_
   refine JL.step ((by first | exact y_nilCheck rfl | exact y_nilCheckF rfl | exact y_nilCheckY rfl)) rfl rfl rfl ?_
   refine JL.loud rfl (l_store1 hT rfl rfl rfl rfl rfl (by (repeat (first | exact Pick.head | apply Pick.tail | apply Pick.app))) (by (first | omega | exact Nat.le_of_ble_eq_true rfl | decide | (simp; omega))) ?_)
   refine JL.nil (JE.then_normal (J.seq (J.region (JL.step (y_move rfl) rfl rfl rfl (JL.step (y_move rfl) rfl rfl rfl (JL.step (y_assign rfl) rfl rfl rfl (JL.step (y_assign rfl) rfl rfl rfl ?_)))))))
   refine JL.nil (JE.then_normal (J.ret (JE.then_ret ?_)))
   refine JE.ret2 (.inl rfl) rfl rfl (by (first | exact RV.tmp rfl | exact RV.cell1 hT rfl rfl rfl (by (exact Rd1.row (by (repeat (first | exact Pick.head | apply Pick.tail | apply Pick.app))) (by rfl))) | exact RV.cellN hT rfl rfl rfl (by (first | exact RdN.rowAll (by (repeat (first | exact Pick.head | apply Pick.tail | apply Pick.app))) | exact RdN.own (by (repeat (first | exact Pick.head | apply Pick.tail | apply Pick.app))))) (by (first | rfl | assumption | (simp; done) | omega)))) (by (first | exact RV.tmp rfl | exact RV.cell1 hT rfl rfl rfl (by (exact Rd1.row (by (repeat (first | exact Pick.head | apply Pick.tail | apply Pick.app))) (by rfl))) | exact RV.cellN hT rfl rfl rfl (by (first | exact RdN.rowAll (by (repeat (first | exact Pick.head | apply Pick.tail | apply Pick.app))) | exact RdN.own (by (repeat (first | exact Pick.head | apply Pick.tail | apply Pick.app))))) (by (first | rfl | assumption | (simp; done) | omega)))) ?_
   first | exact ⟨_, fun w h => h.sup (by (repeat (first | exact Sup.refl | apply Sup.cons (by (repeat (first | exact Pick.head | apply Pick.tail | apply Pick.app))) | apply Sup.app | apply Sup.skip | apply Sup.skips))), a, b, _, rfl, .inl ⟨rfl, rfl⟩, rfl⟩ | exact ⟨_, fun w h => h.sup (by (repeat (first | exact Sup.refl | apply Sup.cons (by (repeat (first | exact Pick.head | apply Pick.tail | apply Pick.app))) | apply Sup.app | apply Sup.skip | apply Sup.skips))), b, a, _, rfl, .inr ⟨rfl, rfl⟩, rfl⟩
 case' hf =>
  intro h
  try (first | (exfalso; omega) | (cases h; done) | (exfalso; simp at h; done) | subst h)
  all_goals
   refine J.skip ?_
 all_goals refine JE.then_normal ?_
 all_goals
  refine J.seq (J.region (JL.step (y_move rfl) rfl rfl rfl (JL.step (y_move rfl) rfl rfl rfl (JL.step (y_assign rfl) rfl rfl rfl (JL.step (y_assign rfl) rfl rfl rfl ?_)))))
  refine JL.nil (JE.then_normal (J.ret ?_))
  refine JE.ret2 (.inl rfl) rfl rfl (by (first | exact RV.tmp rfl | exact RV.cell1 hT rfl rfl rfl (by (exact Rd1.row (by (repeat (first | exact Pick.head | apply Pick.tail | apply Pick.app))) (by rfl))) | exact RV.cellN hT rfl rfl rfl (by (first | exact RdN.rowAll (by (repeat (first | exact Pick.head | apply Pick.tail | apply Pick.app))) | exact RdN.own (by (repeat (first | exact Pick.head | apply Pick.tail | apply Pick.app))))) (by (first | rfl | assumption | (simp; done) | omega)))) (by (first | exact RV.tmp rfl | exact RV.cell1 hT rfl rfl rfl (by (exact Rd1.row (by (repeat (first | exact Pick.head | apply Pick.tail | apply Pick.app))) (by rfl))) | exact RV.cellN hT rfl rfl rfl (by (first | exact RdN.rowAll (by (repeat (first | exact Pick.head | apply Pick.tail | apply Pick.app))) | exact RdN.own (by (repeat (first | exact Pick.head | apply Pick.tail | apply Pick.app))))) (by (first | rfl | assumption | (simp; done) | omega)))) ?_
  first | exact ⟨_, fun w h => h.sup (by (repeat (first | exact Sup.refl | apply Sup.cons (by (repeat (first | exact Pick.head | apply Pick.tail | apply Pick.app))) | apply Sup.app | apply Sup.skip | apply Sup.skips))), a, b, _, rfl, .inl ⟨rfl, rfl⟩, rfl⟩ | exact ⟨_, fun w h => h.sup (by (repeat (first | exact Sup.refl | apply Sup.cons (by (repeat (first | exact Pick.head | apply Pick.tail | apply Pick.app))) | apply Sup.app | apply Sup.skip | apply Sup.skips))), b, a, _, rfl, .inr ⟨rfl, rfl⟩, rfl⟩
theorem medianI (g c n a b e s : Nat) (ia ib ie : Int) (d : Array Int) (sp : List Value) (z : Int) (r : List HProp) (ea : ia = a) (eb : ib = b) (ee : ie = e) (hn : d.size = n) (ha : a < n) (hb : b < n) (he : e < n) (h63 : n < 4611686018427387904) :
 Fc prog E 132 [.slice (some ⟨g, 0, none⟩) n c, .int .i64 ia, .int .i64 ib, .int .i64 ie, .pointer (some ⟨s, 0, none⟩)].toArray (arI g d sp :: row s 3 [.int .i64 z] :: r) (fun v l' => ∃ (x : Nat) (z' : Int), v = .int .i64 x ∧ (x = a ∨ x = b ∨ x = e) ∧ l' = arI g d sp :: row s 3 [.int .i64 z'] :: r) := by
 refine Fc.post ?_
 subst ea eb ee
 refine Fc.of_body (c := ?codeC) Tryd.func132 ?hb Tryd.ntmps132 ?hl ?_
 case hb => exact rfl
 case hl => exact rfl
 refine J.seq (J.region (JL.step (y_assign rfl) rfl rfl rfl ?_))
 refine JL.nil (JE.then_normal (J.seq (J.region (JL.step (y_move rfl) rfl rfl rfl (JL.step (y_move rfl) rfl rfl rfl (JL.step (y_move rfl) rfl rfl rfl (JL.step (y_move rfl) rfl rfl rfl ?_)))))))
 refine JL.loud rfl (l_callF e137 rfl rfl (Fc.on (Split.cons (by (repeat (first | exact Pick.head | apply Pick.tail | apply Pick.app))) (Split.cons (by (repeat (first | exact Pick.head | apply Pick.tail | apply Pick.app))) Split.nil)) (order2I E g c n a b s _ _ d sp _ _ rfl rfl hn (by omega) (by omega) h63)) ?_)
 rintro _ _ ⟨x1, y1, z1, rfl, h1, rfl⟩
 refine JL.step (y_move rfl) rfl rfl rfl (JL.step (y_extract rfl rfl) rfl rfl rfl (JL.step (y_extract rfl rfl) rfl rfl rfl (JL.step (y_assign rfl) rfl rfl rfl (JL.step (y_assign rfl) rfl rfl rfl ?_))))
 refine JL.nil (JE.then_normal (J.seq (J.region (JL.step (y_move rfl) rfl rfl rfl (JL.step (y_move rfl) rfl rfl rfl (JL.step (y_move rfl) rfl rfl rfl (JL.step (y_move rfl) rfl rfl rfl ?_)))))))
 refine JL.loud rfl (l_callF e137 rfl rfl (Fc.on (Split.cons (by (repeat (first | exact Pick.head | apply Pick.tail | apply Pick.app))) (Split.cons (by (repeat (first | exact Pick.head | apply Pick.tail | apply Pick.app))) Split.nil)) (order2I E g c n y1 e s _ _ d sp _ _ rfl rfl hn (by omega) (by omega) h63)) ?_)
 rintro _ _ ⟨x2, y2, z2, rfl, h2, rfl⟩
 refine JL.step (y_move rfl) rfl rfl rfl (JL.step (y_extract rfl rfl) rfl rfl rfl (JL.step (y_extract rfl rfl) rfl rfl rfl (JL.step (y_assign rfl) rfl rfl rfl (JL.step (y_assign rfl) rfl rfl rfl ?_))))
 refine JL.nil (JE.then_normal (J.seq (J.region (JL.step (y_move rfl) rfl rfl rfl (JL.step (y_move rfl) rfl rfl rfl (JL.step (y_move rfl) rfl rfl rfl (JL.step (y_move rfl) rfl rfl rfl ?_)))))))
 refine JL.loud rfl (l_callF e137 rfl rfl (Fc.on (Split.cons (by (repeat (first | exact Pick.head | apply Pick.tail | apply Pick.app))) (Split.cons (by (repeat (first | exact Pick.head | apply Pick.tail | apply Pick.app))) Split.nil)) (order2I E g c n x1 x2 s _ _ d sp _ _ rfl rfl hn (by omega) (by omega) h63)) ?_)
 rintro _ _ ⟨x3, y3, z3, rfl, h3, rfl⟩
 refine JL.step (y_move rfl) rfl rfl rfl (JL.step (y_extract rfl rfl) rfl rfl rfl (JL.step (y_extract rfl rfl) rfl rfl rfl (JL.step (y_assign rfl) rfl rfl rfl (JL.step (y_assign rfl) rfl rfl rfl ?_))))
 refine JL.nil (JE.then_normal (J.seq (J.region (JL.step (y_move rfl) rfl rfl rfl (JL.step (y_assign rfl) rfl rfl rfl ?_)))))
 refine JL.nil (JE.then_normal (J.ret ?_))
 refine JE.ret1 (.inl rfl) rfl rfl (by (first | exact RV.tmp rfl | exact RV.cell1 hT rfl rfl rfl (by (exact Rd1.row (by (repeat (first | exact Pick.head | apply Pick.tail | apply Pick.app))) (by rfl))) | exact RV.cellN hT rfl rfl rfl (by (first | exact RdN.rowAll (by (repeat (first | exact Pick.head | apply Pick.tail | apply Pick.app))) | exact RdN.own (by (repeat (first | exact Pick.head | apply Pick.tail | apply Pick.app))))) (by (first | rfl | assumption | (simp; done) | omega)))) ?_
 exact ⟨_, fun w h => h.sup (by (repeat (first | exact Sup.refl | apply Sup.cons (by (repeat (first | exact Pick.head | apply Pick.tail | apply Pick.app))) | apply Sup.app | apply Sup.skip | apply Sup.skips))), y3, _, rfl, by omega, rfl⟩
theorem adjacentI (g c n a s : Nat) (ia : Int) (d : Array Int) (sp : List Value) (z : Int) (r : List HProp) (ea : ia = a) (hn : d.size = n) (h1 : 1 ≤ a) (ha : a + 1 < n) (h63 : n < 4611686018427387904) :
 Fc prog E 131 [.slice (some ⟨g, 0, none⟩) n c, .int .i64 ia, .pointer (some ⟨s, 0, none⟩)].toArray (arI g d sp :: row s 3 [.int .i64 z] :: r) (fun v l' => ∃ (x : Nat) (z' : Int), v = .int .i64 x ∧ (x = a - 1 ∨ x = a ∨ x = a + 1) ∧ l' = arI g d sp :: row s 3 [.int .i64 z'] :: r) := by
 refine Fc.post ?_
 subst ea
 refine Fc.of_body (c := ?codeC) Tryd.func131 ?hb Tryd.ntmps131 ?hl ?_
 case hb => exact rfl
 case hl => exact rfl
 refine J.seq (J.region (JL.step (y_assign rfl) rfl rfl rfl ?_))
 refine JL.nil (JE.then_normal (J.seq (J.region (JL.step (y_move rfl) rfl rfl rfl (JL.step (y_move rfl) rfl rfl rfl ?_)))))
 refine JL.step (y_sub rfl rfl (by (first | exact wrap_i64 (by omega) (by omega) | rfl))) rfl rfl rfl ?_
 refine JL.step (y_move rfl) rfl rfl rfl (JL.step (y_move rfl) rfl rfl rfl ?_)
 refine JL.step (y_add rfl rfl (by (first | exact wrap_i64 (by omega) (by omega) | rfl))) rfl rfl rfl ?_
 refine JL.step (y_move rfl) rfl rfl rfl ?_
 refine JL.loud rfl (l_callF e132 rfl rfl (Fc.on (Split.cons (by (repeat (first | exact Pick.head | apply Pick.tail | apply Pick.app))) (Split.cons (by (repeat (first | exact Pick.head | apply Pick.tail | apply Pick.app))) Split.nil)) (medianI E g c n (a - 1) a (a + 1) s _ _ _ d sp _ _ (by omega) rfl (by omega) hn (by omega) (by omega) (by omega) h63)) ?_)
 rintro _ _ ⟨x1, z1, rfl, h1, rfl⟩
 refine JL.step (y_assign rfl) rfl rfl rfl ?_
 refine JL.nil (JE.then_normal (J.ret ?_))
 refine JE.ret1 (.inl rfl) rfl rfl (by (first | exact RV.tmp rfl | exact RV.cell1 hT rfl rfl rfl (by (exact Rd1.row (by (repeat (first | exact Pick.head | apply Pick.tail | apply Pick.app))) (by rfl))) | exact RV.cellN hT rfl rfl rfl (by (first | exact RdN.rowAll (by (repeat (first | exact Pick.head | apply Pick.tail | apply Pick.app))) | exact RdN.own (by (repeat (first | exact Pick.head | apply Pick.tail | apply Pick.app))))) (by (first | rfl | assumption | (simp; done) | omega)))) ?_
 exact ⟨_, fun w h => h.sup (by (repeat (first | exact Sup.refl | apply Sup.cons (by (repeat (first | exact Pick.head | apply Pick.tail | apply Pick.app))) | apply Sup.app | apply Sup.skip | apply Sup.skips))), x1, _, rfl, by omega, rfl⟩
theorem pivotI (g c n a b : Nat) (ia ib : Int) (d : Array Int) (sp : List Value) (r : List HProp) (ea : ia = a) (eb : ib = b) (hn : d.size = n) (hab : a + 12 < b) (hb : b ≤ n) (h63 : n < 4611686018427387904) :
 Fc prog E 109 [.slice (some ⟨g, 0, none⟩) n c, .int .i64 ia, .int .i64 ib].toArray (arI g d sp :: r) (fun v l' => ∃ (x h : Nat), v = .tuple #[.int .i64 x, .int .i64 h] ∧ a ≤ x ∧ x < b ∧ l' = arI g d sp :: r) := by
 refine Fc.post ?_
 subst ea eb
 refine Fc.of_body (c := ?codeC) Tryd.func109 ?hb Tryd.ntmps109 ?hl ?_
 case hb => exact rfl
 case hl => exact rfl
 refine J.seq (J.region (JL.step (y_assign rfl) rfl rfl rfl (JL.step (y_assign rfl) rfl rfl rfl ?_)))
 refine JL.nil (JE.then_normal (J.seq (J.region (JL.step (y_move rfl) rfl rfl rfl (JL.step (y_move rfl) rfl rfl rfl ?_)))))
 refine JL.step (y_sub rfl rfl (by (first | exact wrap_i64 (by omega) (by omega) | rfl))) rfl rfl rfl ?_
 refine JL.step (y_assign rfl) rfl rfl rfl ?_
 refine JL.nil (JE.then_normal (J.seq (J.region ?_)))
 refine JL.loud rfl (l_alloc hT rfl rfl (by (first | rfl | simp)) rfl (fun b1 => ?_))
 refine JL.nil (JE.then_normal (J.seq (J.region (JL.step (y_move rfl) rfl rfl rfl (JL.step (y_move rfl) rfl rfl rfl ?_)))))
 refine JL.step (y_quo rfl rfl (by decide) (quo_nat (x := b - a) (k := 4) (by omega) (by omega))) rfl rfl rfl ?_
 refine JL.step (y_mul rfl rfl (by (first | exact wrap_i64 (by omega) (by omega) | rfl))) rfl rfl rfl ?_
 refine JL.step (y_add rfl rfl (by (first | exact wrap_i64 (by omega) (by omega) | rfl))) rfl rfl rfl ?_
 refine JL.step (y_assign rfl) rfl rfl rfl ?_
 refine JL.nil (JE.then_normal (J.seq (J.region (JL.step (y_move rfl) rfl rfl rfl (JL.step (y_move rfl) rfl rfl rfl ?_)))))
 refine JL.step (y_quo rfl rfl (by decide) (quo_nat (x := b - a) (k := 4) (by omega) (by omega))) rfl rfl rfl ?_
 refine JL.step (y_mul rfl rfl (by (first | exact wrap_i64 (by omega) (by omega) | rfl))) rfl rfl rfl ?_
 refine JL.step (y_add rfl rfl (by (first | exact wrap_i64 (by omega) (by omega) | rfl))) rfl rfl rfl ?_
 refine JL.step (y_assign rfl) rfl rfl rfl ?_
 refine JL.nil (JE.then_normal (J.seq (J.region (JL.step (y_move rfl) rfl rfl rfl (JL.step (y_move rfl) rfl rfl rfl ?_)))))
 refine JL.step (y_quo rfl rfl (by decide) (quo_nat (x := b - a) (k := 4) (by omega) (by omega))) rfl rfl rfl ?_
 refine JL.step (y_mul rfl rfl (by (first | exact wrap_i64 (by omega) (by omega) | rfl))) rfl rfl rfl ?_
 refine JL.step (y_add rfl rfl (by (first | exact wrap_i64 (by omega) (by omega) | rfl))) rfl rfl rfl ?_
 refine JL.step (y_assign rfl) rfl rfl rfl ?_
 refine JL.nil (JE.then_normal (J.seq (J.seq (J.region (JL.step (y_move rfl) rfl rfl rfl (JL.step (y_geq rfl rfl) rfl rfl rfl ?_))))))
 refine JL.nil (JE.then_normal ?_)
 refine J.cond_t rfl (by (first | rfl | assumption | (simp; done) | (simp; omega))) ?_
 refine J.seqK (α := Nat × Nat × Nat × Int) (fun q => (a ≤ q.1 ∧ q.1 < b) ∧ (a ≤ q.2.1 ∧ q.2.1 < b) ∧ (a ≤ q.2.2.1 ∧ q.2.2.1 < b)) (fun q => [(0, .slice (some ⟨g, 0, none⟩) n c), (9, .pointer (some ⟨b1, 0, none⟩)), (10, .int .i64 q.1), (11, .int .i64 q.2.1), (12, .int .i64 q.2.2.1)]) (fun q => arI g d sp :: row b1 3 [.int .i64 q.2.2.2] :: r) ?hj11 (fun hk11 => ?hf11)
 case hf11 =>
  refine J.seq (J.region (JL.step (y_move rfl) rfl rfl rfl (JL.step (y_geq rfl rfl) rfl rfl rfl ?_)))
  refine JL.nil (JE.then_normal ?_)
  first | apply J.cond_dec rfl | apply J.cond rfl
  case' ht =>
   intro h
   try (first | (exfalso; omega) | (cases h; done) | (exfalso; simp at h; done) | subst h)
   all_goals
    refine J.seq (J.region (JL.step (y_move rfl) rfl rfl rfl (JL.step (y_move rfl) rfl rfl rfl ?_)))
    refine JL.loud rfl (l_callF e131 rfl rfl (Fc.on (Split.cons (by (repeat (first | exact Pick.head | apply Pick.tail | apply Pick.app))) (Split.cons (by (repeat (first | exact Pick.head | apply Pick.tail | apply Pick.app))) Split.nil)) (adjacentI E g c n (a + (b - a) / 4 * 1) _ _ d sp _ _ (by omega) hn (by omega) (by omega) h63)) ?_)
    rintro _ _ ⟨x1, z1, rfl, h1, rfl⟩
    refine JL.step (y_assign rfl) rfl rfl rfl ?_
    refine JL.nil (JE.then_normal (J.seq (J.region (JL.step (y_move rfl) rfl rfl rfl (JL.step (y_move rfl) rfl rfl rfl ?_)))))
    refine JL.loud rfl (l_callF e131 rfl rfl (Fc.on (Split.cons (by (repeat (first | exact Pick.head | apply Pick.tail | apply Pick.app))) (Split.cons (by (repeat (first | exact Pick.head | apply Pick.tail | apply Pick.app))) Split.nil)) (adjacentI E g c n (a + (b - a) / 4 * 2) _ _ d sp _ _ (by omega) hn (by omega) (by omega) h63)) ?_)
    rintro _ _ ⟨x2, z2, rfl, h2, rfl⟩
    refine JL.step (y_assign rfl) rfl rfl rfl ?_
    refine JL.nil (JE.then_normal (J.region (JL.step (y_move rfl) rfl rfl rfl (JL.step (y_move rfl) rfl rfl rfl ?_))))
    refine JL.loud rfl (l_callF e131 rfl rfl (Fc.on (Split.cons (by (repeat (first | exact Pick.head | apply Pick.tail | apply Pick.app))) (Split.cons (by (repeat (first | exact Pick.head | apply Pick.tail | apply Pick.app))) Split.nil)) (adjacentI E g c n (a + (b - a) / 4 * 3) _ _ d sp _ _ (by omega) hn (by omega) (by omega) h63)) ?_)
    rintro _ _ ⟨x3, z3, rfl, h3, rfl⟩
    refine JL.step (y_assign rfl) rfl rfl rfl ?_
    refine JL.nil ?_
  case' hf =>
   intro h
   try (first | (exfalso; omega) | (cases h; done) | (exfalso; simp at h; done) | subst h)
   all_goals
    refine J.skip ?_
  all_goals refine JE.then_normal ?_
  all_goals
   first | exact J.closeK hk11 (x1, x2, x3, z3) ⟨by dsimp only; omega, by dsimp only; omega, by dsimp only; omega⟩ ⟨rfl, rfl, rfl, rfl, rfl, trivial⟩ (fun w h => h.sup (by (repeat (first | exact Sup.refl | apply Sup.cons (by (repeat (first | exact Pick.head | apply Pick.tail | apply Pick.app))) | apply Sup.app | apply Sup.skip | apply Sup.skips)))) | exact J.closeK hk11 (a + (b - a) / 4 * 1, a + (b - a) / 4 * 2, a + (b - a) / 4 * 3, 0) ⟨by dsimp only; omega, by dsimp only; omega, by dsimp only; omega⟩ ⟨rfl, rfl, (congrArg (fun z => some (Value.int .i64 z)) (by first | omega | (dsimp only; omega))), (congrArg (fun z => some (Value.int .i64 z)) (by first | omega | (dsimp only; omega))), (congrArg (fun z => some (Value.int .i64 z)) (by first | omega | (dsimp only; omega))), trivial⟩ (fun w h => h.sup (by (repeat (first | exact Sup.refl | apply Sup.cons (by (repeat (first | exact Pick.head | apply Pick.tail | apply Pick.app))) | apply Sup.app | apply Sup.skip | apply Sup.skips))))
 rintro ⟨i, j, k, z⟩ ⟨hi, hj, hk⟩
 try dsimp only at hi hj hk ⊢
 refine J.region (JL.step (y_move rfl) rfl rfl rfl (JL.step (y_move rfl) rfl rfl rfl (JL.step (y_move rfl) rfl rfl rfl (JL.step (y_move rfl) rfl rfl rfl ?_))))
 refine JL.loud rfl (l_callF e132 rfl rfl (Fc.on (Split.cons (by (repeat (first | exact Pick.head | apply Pick.tail | apply Pick.app))) (Split.cons (by (repeat (first | exact Pick.head | apply Pick.tail | apply Pick.app))) Split.nil)) (medianI E g c n i j k _ _ _ _ d sp _ _ rfl rfl rfl hn (by omega) (by omega) (by omega) h63)) ?_)
 rintro _ _ ⟨m, zm, rfl, hm, rfl⟩
 refine JL.step (y_assign rfl) rfl rfl rfl ?_
 refine JL.nil ?_
 all_goals refine JE.then_normal ?_
 all_goals
  refine J.seq (J.region ?_)
  refine JL.step (y_load1 hT rfl rfl rfl (by (exact Rd1.row (by (repeat (first | exact Pick.head | apply Pick.tail | apply Pick.app))) (by rfl)))) rfl rfl rfl ?_
  refine JL.nil (JE.then_normal (J.block (J.seq (J.region (JL.step (y_eql rfl rfl) rfl rfl rfl (JL.step (y_assign rfl) rfl rfl rfl ?_))))))
  refine JL.nil (JE.then_normal ?_)
  first | apply J.cond_dec rfl | apply J.cond rfl
  case' ht =>
   intro h
   try (first | (exfalso; omega) | (cases h; done) | (exfalso; simp at h; done) | subst h)
   all_goals
    refine J.seq (J.region (JL.step (y_move rfl) rfl rfl rfl (JL.step (y_assign rfl) rfl rfl rfl (JL.step (y_assign rfl) rfl rfl rfl ?_))))
    refine JL.nil (JE.then_normal (J.ret (JE.block_ret ?_)))
    refine JE.ret2 (.inl rfl) rfl rfl (by (first | exact RV.tmp rfl | exact RV.cell1 hT rfl rfl rfl (by (exact Rd1.row (by (repeat (first | exact Pick.head | apply Pick.tail | apply Pick.app))) (by rfl))) | exact RV.cellN hT rfl rfl rfl (by (first | exact RdN.rowAll (by (repeat (first | exact Pick.head | apply Pick.tail | apply Pick.app))) | exact RdN.own (by (repeat (first | exact Pick.head | apply Pick.tail | apply Pick.app))))) (by (first | rfl | assumption | (simp; done) | omega)))) (by (first | exact RV.tmp rfl | exact RV.cell1 hT rfl rfl rfl (by (exact Rd1.row (by (repeat (first | exact Pick.head | apply Pick.tail | apply Pick.app))) (by rfl))) | exact RV.cellN hT rfl rfl rfl (by (first | exact RdN.rowAll (by (repeat (first | exact Pick.head | apply Pick.tail | apply Pick.app))) | exact RdN.own (by (repeat (first | exact Pick.head | apply Pick.tail | apply Pick.app))))) (by (first | rfl | assumption | (simp; done) | omega)))) ?_
    first | exact ⟨_, fun w h => h.sup (by (repeat (first | exact Sup.refl | apply Sup.cons (by (repeat (first | exact Pick.head | apply Pick.tail | apply Pick.app))) | apply Sup.app | apply Sup.skip | apply Sup.skips))), m, 1, rfl, by omega, by omega, rfl⟩ | exact ⟨_, fun w h => h.sup (by (repeat (first | exact Sup.refl | apply Sup.cons (by (repeat (first | exact Pick.head | apply Pick.tail | apply Pick.app))) | apply Sup.app | apply Sup.skip | apply Sup.skips))), m, 2, rfl, by omega, by omega, rfl⟩ | exact ⟨_, fun w h => h.sup (by (repeat (first | exact Sup.refl | apply Sup.cons (by (repeat (first | exact Pick.head | apply Pick.tail | apply Pick.app))) | apply Sup.app | apply Sup.skip | apply Sup.skips))), m, 0, rfl, by omega, by omega, rfl⟩
  case' hf =>
   intro h
   try (first | (exfalso; omega) | (cases h; done) | (exfalso; simp at h; done) | subst h)
   all_goals
    refine J.seq (J.region (JL.step (y_eql rfl rfl) rfl rfl rfl (JL.step (y_assign rfl) rfl rfl rfl ?_)))
    refine JL.nil (JE.then_normal ?_)
    first | apply J.cond_dec rfl | apply J.cond rfl
    case' ht =>
     intro h
     try (first | (exfalso; omega) | (cases h; done) | (exfalso; simp at h; done) | subst h)
     all_goals
      refine J.seq (J.region (JL.step (y_move rfl) rfl rfl rfl (JL.step (y_assign rfl) rfl rfl rfl (JL.step (y_assign rfl) rfl rfl rfl ?_))))
      refine JL.nil (JE.then_normal (J.ret (JE.block_ret ?_)))
      refine JE.ret2 (.inl rfl) rfl rfl (by (first | exact RV.tmp rfl | exact RV.cell1 hT rfl rfl rfl (by (exact Rd1.row (by (repeat (first | exact Pick.head | apply Pick.tail | apply Pick.app))) (by rfl))) | exact RV.cellN hT rfl rfl rfl (by (first | exact RdN.rowAll (by (repeat (first | exact Pick.head | apply Pick.tail | apply Pick.app))) | exact RdN.own (by (repeat (first | exact Pick.head | apply Pick.tail | apply Pick.app))))) (by (first | rfl | assumption | (simp; done) | omega)))) (by (first | exact RV.tmp rfl | exact RV.cell1 hT rfl rfl rfl (by (exact Rd1.row (by (repeat (first | exact Pick.head | apply Pick.tail | apply Pick.app))) (by rfl))) | exact RV.cellN hT rfl rfl rfl (by (first | exact RdN.rowAll (by (repeat (first | exact Pick.head | apply Pick.tail | apply Pick.app))) | exact RdN.own (by (repeat (first | exact Pick.head | apply Pick.tail | apply Pick.app))))) (by (first | rfl | assumption | (simp; done) | omega)))) ?_
      first | exact ⟨_, fun w h => h.sup (by (repeat (first | exact Sup.refl | apply Sup.cons (by (repeat (first | exact Pick.head | apply Pick.tail | apply Pick.app))) | apply Sup.app | apply Sup.skip | apply Sup.skips))), m, 1, rfl, by omega, by omega, rfl⟩ | exact ⟨_, fun w h => h.sup (by (repeat (first | exact Sup.refl | apply Sup.cons (by (repeat (first | exact Pick.head | apply Pick.tail | apply Pick.app))) | apply Sup.app | apply Sup.skip | apply Sup.skips))), m, 2, rfl, by omega, by omega, rfl⟩ | exact ⟨_, fun w h => h.sup (by (repeat (first | exact Sup.refl | apply Sup.cons (by (repeat (first | exact Pick.head | apply Pick.tail | apply Pick.app))) | apply Sup.app | apply Sup.skip | apply Sup.skips))), m, 0, rfl, by omega, by omega, rfl⟩
    case' hf =>
     intro h
     try (first | (exfalso; omega) | (cases h; done) | (exfalso; simp at h; done) | subst h)
     all_goals
      refine J.seq (J.region (JL.step (y_move rfl) rfl rfl rfl (JL.step (y_assign rfl) rfl rfl rfl (JL.step (y_assign rfl) rfl rfl rfl ?_))))
      refine JL.nil (JE.then_normal (J.ret (JE.block_ret ?_)))
      refine JE.ret2 (.inl rfl) rfl rfl (by (first | exact RV.tmp rfl | exact RV.cell1 hT rfl rfl rfl (by (exact Rd1.row (by (repeat (first | exact Pick.head | apply Pick.tail | apply Pick.app))) (by rfl))) | exact RV.cellN hT rfl rfl rfl (by (first | exact RdN.rowAll (by (repeat (first | exact Pick.head | apply Pick.tail | apply Pick.app))) | exact RdN.own (by (repeat (first | exact Pick.head | apply Pick.tail | apply Pick.app))))) (by (first | rfl | assumption | (simp; done) | omega)))) (by (first | exact RV.tmp rfl | exact RV.cell1 hT rfl rfl rfl (by (exact Rd1.row (by (repeat (first | exact Pick.head | apply Pick.tail | apply Pick.app))) (by rfl))) | exact RV.cellN hT rfl rfl rfl (by (first | exact RdN.rowAll (by (repeat (first | exact Pick.head | apply Pick.tail | apply Pick.app))) | exact RdN.own (by (repeat (first | exact Pick.head | apply Pick.tail | apply Pick.app))))) (by (first | rfl | assumption | (simp; done) | omega)))) ?_
      first | exact ⟨_, fun w h => h.sup (by (repeat (first | exact Sup.refl | apply Sup.cons (by (repeat (first | exact Pick.head | apply Pick.tail | apply Pick.app))) | apply Sup.app | apply Sup.skip | apply Sup.skips))), m, 1, rfl, by omega, by omega, rfl⟩ | exact ⟨_, fun w h => h.sup (by (repeat (first | exact Sup.refl | apply Sup.cons (by (repeat (first | exact Pick.head | apply Pick.tail | apply Pick.app))) | apply Sup.app | apply Sup.skip | apply Sup.skips))), m, 2, rfl, by omega, by omega, rfl⟩ | exact ⟨_, fun w h => h.sup (by (repeat (first | exact Sup.refl | apply Sup.cons (by (repeat (first | exact Pick.head | apply Pick.tail | apply Pick.app))) | apply Sup.app | apply Sup.skip | apply Sup.skips))), m, 0, rfl, by omega, by omega, rfl⟩
end
end
section
open Go Go.SL
section
attribute [local irreducible] J JL JE JM LS Y Fc RV Code.wp wpList Code.wpIn wpListIn
attribute [local irreducible] Yc
attribute [local irreducible] Sort.ltInt
variable (E : World)
theorem brkI (g c n a b : Nat) (ia ib : Int) (d : Array Int) (sp : List Value) (r : List HProp) (ea : ia = a) (eb : ib = b) (hn : d.size = n) (hab : a + 12 < b) (hb : b ≤ n) (h63 : n < 4611686018427387904) :
 Fc prog E 108 [.slice (some ⟨g, 0, none⟩) n c, .int .i64 ia, .int .i64 ib].toArray (arI g d sp :: r) (fun v l' => v = .tuple #[] ∧ ∃ d', Sort.PermIn a b d d' ∧ l' = arI g d' sp :: r) := by
 refine Fc.post ?_
 subst ea eb
 refine Fc.of_body (c := ?codeC) Tryd.func108 ?hb Tryd.ntmps108 ?hl ?_
 case hb => exact rfl
 case hl => exact rfl
 refine J.seq (J.region (JL.step (y_move rfl) rfl rfl rfl (JL.step (y_move rfl) rfl rfl rfl ?_)))
 refine JL.step (y_sub rfl rfl (by (first | exact wrap_i64 (by omega) (by omega) | rfl))) rfl rfl rfl ?_
 refine JL.step (y_assign rfl) rfl rfl rfl ?_
 refine JL.nil (JE.then_normal (J.seq (J.region (JL.step (y_move rfl) rfl rfl rfl (JL.step (y_geq rfl rfl) rfl rfl rfl ?_)))))
 refine JL.nil (JE.then_normal ?_)
 refine J.cond_t rfl (by (first | rfl | assumption | (simp; done) | (simp; omega))) ?_
 refine J.seq (J.region (JL.step (y_move rfl) rfl rfl rfl ?_))
 refine JL.step ((by first | exact y_convToQ hT rfl rfl rfl rfl | exact y_conv hT rfl rfl rfl rfl (by (first | exact wrap_i64 (by omega) (by omega) | rfl)))) rfl rfl rfl ?_
 refine JL.loud rfl (l_alloc hT rfl rfl (by (first | rfl | simp)) rfl (fun b1 => ?_))
 refine JL.loud rfl (l_store1 hT rfl rfl rfl rfl rfl (by (repeat (first | exact Pick.head | apply Pick.tail | apply Pick.app))) (by (first | omega | exact Nat.le_of_ble_eq_true rfl | decide | (simp; omega))) ?_)
 refine JL.nil (JE.then_normal (J.seq (J.region (JL.step (y_move rfl) rfl rfl rfl ?_))))
 refine JL.loud rfl (l_callF e122 rfl rfl (npow E _ (b - a) _ (by omega) (by omega) (by omega)) ?_)
 rintro _ _ ⟨m, rfl, hm1, hm2, rfl⟩
 refine JL.step (y_assign rfl) rfl rfl rfl ?_
 refine JL.nil (JE.then_normal (J.seq (J.region (JL.step (y_move rfl) rfl rfl rfl (JL.step (y_move rfl) rfl rfl rfl ?_)))))
 refine JL.step (y_quo rfl rfl (by decide) (quo_nat (x := b - a) (k := 4) (by omega) (by omega))) rfl rfl rfl ?_
 refine JL.step (y_mul rfl rfl (by (first | exact wrap_i64 (by omega) (by omega) | rfl))) rfl rfl rfl ?_
 refine JL.step (y_add rfl rfl (by (first | exact wrap_i64 (by omega) (by omega) | rfl))) rfl rfl rfl ?_
 refine JL.step (y_sub rfl rfl (by (first | exact wrap_i64 (by omega) (by omega) | rfl))) rfl rfl rfl ?_
 refine JL.step (y_assign rfl) rfl rfl rfl ?_
 refine JL.nil (JE.then_normal (J.block ?_))
 refine J.loop (α := Nat × BitVec 64 × Array Int) (fun s => a ≤ s.1 ∧ s.1 < b ∧ s.2.2.size = n ∧ Sort.PermIn a b d s.2.2) (fun s => [(0, .slice (some ⟨g, 0, none⟩) n c), (1, .int .i64 a), (6, .int .i64 ((b - a : Nat) : Int)), (7, .pointer (some ⟨b1, 0, none⟩)), (8, .int .u64 m), (9, .int .i64 s.1)]) (fun s => arI g s.2.2 sp :: row b1 157 [Q s.2.1] :: r) (fun s => b - s.1) (a + (b - a) / 4 * 2 - 1, BitVec.ofInt 64 ((b : Int) - a), d) ⟨by dsimp only; omega, by dsimp only; omega, hn, Sort.permIn_refl _ _ _⟩ ⟨rfl, rfl, (congrArg (fun z => some (Value.int .i64 z)) (by first | omega | (dsimp only; omega))), rfl, rfl, (congrArg (fun z => some (Value.int .i64 z)) (by first | omega | (dsimp only; omega))), trivial⟩ (fun w h => h.sup (by (repeat (first | exact Sup.refl | apply Sup.cons (by (repeat (first | exact Pick.head | apply Pick.tail | apply Pick.app))) | apply Sup.app | apply Sup.skip | apply Sup.skips)))) ?_
 rintro ⟨i, z, d1⟩ ⟨hi1, hi2, hs1, hp1⟩
 try dsimp only at hi1 hi2 hs1 hp1 ⊢
 refine J.seq (J.seq (J.region (JL.step (y_move rfl) rfl rfl rfl (JL.step (y_move rfl) rfl rfl rfl (JL.step (y_move rfl) rfl rfl rfl ?_)))))
 refine JL.step (y_quo rfl rfl (by decide) (quo_nat (x := b - a) (k := 4) (by omega) (by omega))) rfl rfl rfl ?_
 refine JL.step (y_mul rfl rfl (by (first | exact wrap_i64 (by omega) (by omega) | rfl))) rfl rfl rfl ?_
 refine JL.step (y_add rfl rfl (by (first | exact wrap_i64 (by omega) (by omega) | rfl))) rfl rfl rfl ?_
 refine JL.step (y_add rfl rfl (by (first | exact wrap_i64 (by omega) (by omega) | rfl))) rfl rfl rfl ?_
 refine JL.step (y_leq rfl rfl) rfl rfl rfl ?_
 refine JL.nil (JE.then_normal ?_)
 first | apply J.cond_dec rfl | apply J.cond rfl
 case' ht =>
  intro h
  try (first | (exfalso; omega) | (cases h; done) | (exfalso; simp at h; done) | subst h)
  all_goals
   refine J.skip ?_
 case' hf =>
  intro h
  try (first | (exfalso; omega) | (cases h; done) | (exfalso; simp at h; done) | subst h)
  all_goals
   refine J.exit (JE.then_exit (JE.then_exit (JE.block_exit ?_)))
   refine JE.ret0 (.inr rfl) rfl rfl  ?_
   exact ⟨_, fun w h => h.sup (by (repeat (first | exact Sup.refl | apply Sup.cons (by (repeat (first | exact Pick.head | apply Pick.tail | apply Pick.app))) | apply Sup.app | apply Sup.skip | apply Sup.skips))), rfl, d1, hp1, rfl⟩
 all_goals refine JE.then_normal ?_
 all_goals
  refine J.seq (J.block (J.seq (J.region ?_)))
  refine JL.loud rfl (l_callF e123 rfl rfl (Fc.on (Split.cons (by (repeat (first | exact Pick.head | apply Pick.tail | apply Pick.app))) Split.nil) (xnext E _ _ _ _)) ?_)
  rintro _ _ ⟨z', rfl, rfl⟩
  refine JL.step (y_move rfl) rfl rfl rfl ?_
  refine JL.step (y_sub (m := ((m - 1 : Nat) : Int)) rfl rfl (by rw [show ((m : Nat) : Int) - 1 = ((m - 1 : Nat) : Int) by omega]; exact wrap_u64n (by omega))) rfl rfl rfl ?_
  refine JL.step (y_bits (m := ((z'.toNat &&& (m - 1) : Nat) : Int)) rfl rfl (and_nat (by omega))) rfl rfl rfl ?_
  refine JL.step (y_conv (m := ((z'.toNat &&& (m - 1) : Nat) : Int)) hT rfl rfl rfl rfl (wrap_and (by omega))) rfl rfl rfl ?_
  refine JL.step (y_assign rfl) rfl rfl rfl ?_
  refine JL.nil (JE.then_normal ?_)
  refine J.seqK (α := Nat × BitVec 64) (fun q => q.1 < b - a) (fun q => [(0, .slice (some ⟨g, 0, none⟩) n c), (1, .int .i64 a), (6, .int .i64 ((b - a : Nat) : Int)), (7, .pointer (some ⟨b1, 0, none⟩)), (8, .int .u64 m), (9, .int .i64 i), (10, .int .i64 q.1)]) (fun q => arI g d1 sp :: row b1 157 [Q q.2] :: r) ?hj10 (fun hk10 => ?hf10)
  case hf10 =>
   refine J.seq (J.region ?_)
   have hle : z'.toNat &&& (m - 1) ≤ m - 1 := Nat.and_le_right
   generalize z'.toNat &&& (m - 1) = o at hle ⊢
   refine JL.step (y_move rfl) rfl rfl rfl (JL.step (y_move rfl) rfl rfl rfl (JL.step (y_geq rfl rfl) rfl rfl rfl ?_))
   refine JL.nil (JE.then_normal ?_)
   first | apply J.cond_dec rfl | apply J.cond rfl
   case' ht =>
    intro h
    try (first | (exfalso; omega) | (cases h; done) | (exfalso; simp at h; done) | subst h)
    all_goals
     refine J.region (JL.step (y_move rfl) rfl rfl rfl (JL.step (y_move rfl) rfl rfl rfl ?_))
     refine JL.step (y_sub rfl rfl (by (first | exact wrap_i64 (by omega) (by omega) | rfl))) rfl rfl rfl ?_
     refine JL.step (y_assign rfl) rfl rfl rfl ?_
     refine JL.nil ?_
   case' hf =>
    intro h
    try (first | (exfalso; omega) | (cases h; done) | (exfalso; simp at h; done) | subst h)
    all_goals
     refine J.skip ?_
   all_goals refine JE.then_normal ?_
   all_goals
    first | exact J.closeK hk10 (o - (b - a), z') (by dsimp only; omega) ⟨rfl, rfl, rfl, rfl, rfl, rfl, (congrArg (fun z => some (Value.int .i64 z)) (by first | omega | (dsimp only; omega))), trivial⟩ (fun w h => h.sup (by (repeat (first | exact Sup.refl | apply Sup.cons (by (repeat (first | exact Pick.head | apply Pick.tail | apply Pick.app))) | apply Sup.app | apply Sup.skip | apply Sup.skips)))) | exact J.closeK hk10 (o, z') (by dsimp only; omega) ⟨rfl, rfl, rfl, rfl, rfl, rfl, rfl, trivial⟩ (fun w h => h.sup (by (repeat (first | exact Sup.refl | apply Sup.cons (by (repeat (first | exact Pick.head | apply Pick.tail | apply Pick.app))) | apply Sup.app | apply Sup.skip | apply Sup.skips))))
  rintro ⟨o, z2⟩ ho
  dsimp only at ho ⊢
  refine J.draw _ _ [(0, .q), (1, .q), (2, .q), (3, .q), (4, .q), (5, .q), (6, .q), (7, .q), (8, .q), (9, .q), (10, .q), (12, .q), (13, .q), (14, .q), (11, .e), (15, .e), (16, .q), (17, .l), (18, .q), (19, .l)] mixed (by kernel_rfl) (Split.cons (Pick.head) (Split.nil)) ?_
  refine JM.quiet rfl rfl rfl rfl (fun m => y_move rfl) (JM.quiet rfl rfl rfl rfl (fun m => y_move rfl) (JM.quiet rfl rfl rfl rfl (fun m => y_move rfl) (JM.quiet rfl rfl rfl rfl (fun m => y_move rfl) (JM.quiet rfl rfl rfl rfl (fun m => y_move rfl) ?_))))
  refine JM.quiet rfl rfl rfl rfl (fun m => y_add rfl rfl (by (first | exact wrap_i64 (by omega) (by omega) | rfl))) ?_
  refine JM.quiet rfl rfl rfl rfl (fun m => y_move rfl) (JM.quiet rfl rfl rfl rfl (fun m => y_move rfl) (JM.quiet rfl rfl rfl rfl (fun m => y_move rfl) ?_))
  refine JM.quiet rfl rfl rfl rfl (fun m => y_add rfl rfl (by (first | exact wrap_i64 (by omega) (by omega) | rfl))) ?_
  refine JM.quiet rfl rfl rfl rfl (fun m => y_indexAddr_slice hT rfl rfl rfl rfl rfl (by (first | omega | exact Nat.le_of_ble_eq_true rfl | decide | (simp; omega))) (by (first | omega | exact Nat.le_of_ble_eq_true rfl | decide | (simp; omega)))) ?_
  refine JM.quiet rfl rfl rfl rfl (fun m => y_move rfl) (JM.quiet rfl rfl rfl rfl (fun m => y_move rfl) ?_)
  refine JM.quiet rfl rfl rfl rfl (fun m => y_indexAddr_slice hT rfl rfl rfl rfl rfl (by (first | omega | exact Nat.le_of_ble_eq_true rfl | decide | (simp; omega))) (by (first | omega | exact Nat.le_of_ble_eq_true rfl | decide | (simp; omega)))) ?_
  refine JM.early rfl rfl rfl rfl (fun fr => y_load1 hT rfl rfl rfl (Rd1.arr (i := (a + o)) (by (repeat (first | exact Pick.head | apply Pick.tail | apply Pick.app))) (by (first | assumption | omega | (simp only [Array.size_setIfInBounds]; omega))) (by exact arr_off rfl (by omega)))) ?_
  refine JM.early rfl rfl rfl rfl (fun fr => y_load1 hT rfl rfl rfl (Rd1.arr (i := (i)) (by (repeat (first | exact Pick.head | apply Pick.tail | apply Pick.app))) (by (first | assumption | omega | (simp only [Array.size_setIfInBounds]; omega))) (by exact arr_off rfl (by omega)))) ?_
  refine JM.quiet rfl rfl rfl rfl (fun m => y_indexAddr_slice hT rfl rfl rfl rfl rfl (by (first | omega | exact Nat.le_of_ble_eq_true rfl | decide | (simp; omega))) (by (first | omega | exact Nat.le_of_ble_eq_true rfl | decide | (simp; omega)))) ?_
  refine JM.loud rfl rfl (fun fr => l_storeArr (j := (i)) (u := d1[a + o]!) hT rfl rfl rfl rfl (fun _ => rfl) (by (repeat (first | exact Pick.head | apply Pick.tail | apply Pick.app))) (by (first | assumption | omega | (simp only [Array.size_setIfInBounds]; omega))) (by exact arr_off rfl (by omega)) (⟨[_], (by (repeat (first | exact Split.nil | exact Split.all | refine Split.cons Pick.head ?_))), ?_⟩))
  refine JM.quiet rfl rfl rfl rfl (fun m => y_indexAddr_slice hT rfl rfl rfl rfl rfl (by (first | omega | exact Nat.le_of_ble_eq_true rfl | decide | (simp; omega))) (by (first | omega | exact Nat.le_of_ble_eq_true rfl | decide | (simp; omega)))) ?_
  refine JM.loud rfl rfl (fun fr => l_storeArr (j := (a + o)) (u := d1[i]!) hT rfl rfl rfl rfl (fun _ => rfl) (by (repeat (first | exact Pick.head | apply Pick.tail | apply Pick.app))) (by (first | assumption | omega | (simp only [Array.size_setIfInBounds]; omega))) (by exact arr_off rfl (by omega)) (⟨[_], (by (repeat (first | exact Split.nil | exact Split.all | refine Split.cons Pick.head ?_))), ?_⟩))
  refine JM.nil ?_
  all_goals refine JE.block_normal (JE.then_normal ?_)
  all_goals
   refine J.region (JL.step (y_move rfl) rfl rfl rfl ?_)
   refine JL.step (y_add rfl rfl (by (first | exact wrap_i64 (by omega) (by omega) | rfl))) rfl rfl rfl ?_
   refine JL.step (y_assign rfl) rfl rfl rfl ?_
   refine JL.nil ?_
 all_goals
  exact JE.round (s := (i, z, d1)) (i + 1, z2, Sort.swp d1 i (a + o)) ⟨by dsimp only; omega, by dsimp only; omega, by dsimp only; rw [swp_size]; exact hs1, Sort.permIn_trans _ _ _ _ _ hp1 (Sort.swp_permIn d1 a b i (a + o) hi1 hi2 (by omega) (by omega) (by omega))⟩ ⟨rfl, rfl, rfl, rfl, rfl, (congrArg (fun z => some (Value.int .i64 z)) (by first | omega | (dsimp only; omega))), trivial⟩ (fun w h => h.sup (by (repeat (first | exact Sup.refl | apply Sup.cons (by (repeat (first | exact Pick.head | apply Pick.tail | apply Pick.app))) | apply Sup.app | apply Sup.skip | apply Sup.skips)))) (by dsimp only; omega)
end
end
section
open Go Go.SL
section
attribute [local irreducible] J JL JE JM LS Y Fc RV Code.wp wpList Code.wpIn wpListIn
attribute [local irreducible] Yc
attribute [local irreducible] Sort.ltInt
variable (E : World)
theorem partEqI (g c n a b p : Nat) (ia ib ip : Int) (d : Array Int) (sp : List Value) (r : List HProp) (ea : ia = a) (eb : ib = b) (ep : ip = p) (hn : d.size = n) (hp1 : a ≤ p) (hp2 : p < b) (hb : b ≤ n) (h63 : n < 4611686018427387904) :
 Fc prog E 113 [.slice (some ⟨g, 0, none⟩) n c, .int .i64 ia, .int .i64 ib, .int .i64 ip].toArray (arI g d sp :: r) (fun v l' => v = .int .i64 ((Sort.partitionEqual Sort.ltInt d a b p).1 : Int) ∧ l' = arI g (Sort.partitionEqual Sort.ltInt d a b p).2 sp :: r) := by
 refine Fc.eqs ?_
 subst ea eb ep
 refine Fc.of_body (c := ?codeC) Tryd.func113 ?hb Tryd.ntmps113 ?hl ?_
 case hb => exact rfl
 case hl => exact rfl
 refine J.seq (J.region (JL.step (y_assign rfl) rfl rfl rfl ?_))
 refine JL.nil (JE.then_normal (J.seq ?_))
 refine J.draw _ _ [(0, .q), (1, .q), (2, .q), (3, .q), (4, .q), (5, .q), (6, .q), (8, .q), (9, .q), (10, .q), (7, .e), (11, .e), (12, .q), (13, .l), (14, .q), (15, .l)] mixed (by kernel_rfl) (Split.cons (Pick.head) (Split.nil)) ?_
 refine JM.quiet rfl rfl rfl rfl (fun m => y_move rfl) (JM.quiet rfl rfl rfl rfl (fun m => y_move rfl) (JM.quiet rfl rfl rfl rfl (fun m => y_move rfl) (JM.quiet rfl rfl rfl rfl (fun m => y_move rfl) (JM.quiet rfl rfl rfl rfl (fun m => y_move rfl) (JM.quiet rfl rfl rfl rfl (fun m => y_move rfl) ?_)))))
 refine JM.quiet rfl rfl rfl rfl (fun m => y_indexAddr_slice hT rfl rfl rfl rfl rfl (by (first | omega | exact Nat.le_of_ble_eq_true rfl | decide | (simp; omega))) (by (first | omega | exact Nat.le_of_ble_eq_true rfl | decide | (simp; omega)))) ?_
 refine JM.quiet rfl rfl rfl rfl (fun m => y_move rfl) (JM.quiet rfl rfl rfl rfl (fun m => y_move rfl) ?_)
 refine JM.quiet rfl rfl rfl rfl (fun m => y_indexAddr_slice hT rfl rfl rfl rfl rfl (by (first | omega | exact Nat.le_of_ble_eq_true rfl | decide | (simp; omega))) (by (first | omega | exact Nat.le_of_ble_eq_true rfl | decide | (simp; omega)))) ?_
 refine JM.early rfl rfl rfl rfl (fun fr => y_load1 hT rfl rfl rfl (Rd1.arr (i := (p)) (by (repeat (first | exact Pick.head | apply Pick.tail | apply Pick.app))) (by (first | assumption | omega | (simp only [Array.size_setIfInBounds]; omega))) (by exact arr_off rfl (by omega)))) ?_
 refine JM.early rfl rfl rfl rfl (fun fr => y_load1 hT rfl rfl rfl (Rd1.arr (i := (a)) (by (repeat (first | exact Pick.head | apply Pick.tail | apply Pick.app))) (by (first | assumption | omega | (simp only [Array.size_setIfInBounds]; omega))) (by exact arr_off rfl (by omega)))) ?_
 refine JM.quiet rfl rfl rfl rfl (fun m => y_indexAddr_slice hT rfl rfl rfl rfl rfl (by (first | omega | exact Nat.le_of_ble_eq_true rfl | decide | (simp; omega))) (by (first | omega | exact Nat.le_of_ble_eq_true rfl | decide | (simp; omega)))) ?_
 refine JM.loud rfl rfl (fun fr => l_storeArr (j := (a)) (u := d[p]!) hT rfl rfl rfl rfl (fun _ => rfl) (by (repeat (first | exact Pick.head | apply Pick.tail | apply Pick.app))) (by (first | assumption | omega | (simp only [Array.size_setIfInBounds]; omega))) (by exact arr_off rfl (by omega)) (⟨[_], (by (repeat (first | exact Split.nil | exact Split.all | refine Split.cons Pick.head ?_))), ?_⟩))
 refine JM.quiet rfl rfl rfl rfl (fun m => y_indexAddr_slice hT rfl rfl rfl rfl rfl (by (first | omega | exact Nat.le_of_ble_eq_true rfl | decide | (simp; omega))) (by (first | omega | exact Nat.le_of_ble_eq_true rfl | decide | (simp; omega)))) ?_
 refine JM.loud rfl rfl (fun fr => l_storeArr (j := (p)) (u := d[a]!) hT rfl rfl rfl rfl (fun _ => rfl) (by (repeat (first | exact Pick.head | apply Pick.tail | apply Pick.app))) (by (first | assumption | omega | (simp only [Array.size_setIfInBounds]; omega))) (by exact arr_off rfl (by omega)) (⟨[_], (by (repeat (first | exact Split.nil | exact Split.all | refine Split.cons Pick.head ?_))), ?_⟩))
 refine JM.nil (JE.then_normal (J.seq (J.region (JL.step (y_move rfl) rfl rfl rfl ?_))))
 refine JL.step (y_add rfl rfl (by (first | exact wrap_i64 (by omega) (by omega) | rfl))) rfl rfl rfl ?_
 refine JL.step (y_move rfl) rfl rfl rfl ?_
 refine JL.step (y_sub rfl rfl (by (first | exact wrap_i64 (by omega) (by omega) | rfl))) rfl rfl rfl ?_
 refine JL.step (y_assign rfl) rfl rfl rfl (JL.step (y_assign rfl) rfl rfl rfl ?_)
 refine JL.nil (JE.then_normal (J.seq (J.block ?_)))
 refine J.loop (α := Nat × Nat × Array Int) (fun s => a < s.1 ∧ s.1 ≤ b ∧ s.2.1 < b ∧ s.1 ≤ s.2.1 + 1 ∧ s.2.2.size = n ∧ Sort.partEqLoop Sort.ltInt a s.1 s.2.1 s.2.2 = Sort.partitionEqual Sort.ltInt d a b p) (fun s => [(0, .slice (some ⟨g, 0, none⟩) n c), (1, .int .i64 a), (9, .int .i64 s.1), (10, .int .i64 s.2.1)]) (fun s => arI g s.2.2 sp :: r) (fun s => s.2.1 + 1 - s.1) (a + 1, b - 1, Sort.swp d a p) ⟨by dsimp only; omega, by dsimp only; omega, by dsimp only; omega, by dsimp only; omega, by dsimp only; rw [swp_size]; exact hn, rfl⟩ ⟨rfl, rfl, (congrArg (fun z => some (Value.int .i64 z)) (by first | omega | (dsimp only; omega))), (congrArg (fun z => some (Value.int .i64 z)) (by first | omega | (dsimp only; omega))), trivial⟩ (fun w h => h) ?_
 rintro ⟨i, j, d1⟩ ⟨hi1, hi2, hj1, hij, hs1, he1⟩
 try dsimp only at hi1 hi2 hj1 hij hs1 he1 ⊢
 rw [Sort.partEqLoop_eq] at he1
 refine J.block (J.seq (J.block ?_))
 refine J.loop (α := Nat) (fun x => i ≤ x ∧ x ≤ j + 1 ∧ Sort.scanUp (fun x => !Sort.ltInt d1[a]! x) d1 j x = Sort.scanUp (fun x => !Sort.ltInt d1[a]! x) d1 j i) (fun x => [(0, .slice (some ⟨g, 0, none⟩) n c), (1, .int .i64 a), (9, .int .i64 x), (10, .int .i64 j)]) (fun x => arI g d1 sp :: r) (fun x => j + 1 - x) i ⟨Nat.le_refl _, hij, rfl⟩ ⟨rfl, rfl, rfl, rfl, trivial⟩ (fun w h => h) ?_
 rintro x ⟨hx1, hx2, hx3⟩
 try dsimp only at hx1 hx2 hx3 ⊢
 refine J.seq (J.seq ?_)
 by_cases hg : x ≤ j
 all_goals
  refine J.draw _ _ [(0, .q), (1, .q), (2, .q), (3, .q), (4, .q), (5, .q), (6, .q), (7, .q), (8, .q), (9, .q), (10, .q), (11, .q), (12, .q), (13, .q), (14, .q)] mixed (by kernel_rfl) (Split.nil) ?_
  refine JM.quiet rfl rfl rfl rfl (fun m => y_move rfl) (JM.quiet rfl rfl rfl rfl (fun m => y_move rfl) ?_)
  first | refine JM.quiet rfl rfl rfl rfl (fun m => y_leqB rfl rfl (decide_eq_true (by omega))) ?_ | refine JM.quiet rfl rfl rfl rfl (fun m => y_leqB rfl rfl (decide_eq_false (by omega))) ?_
  refine JM.quiet rfl rfl rfl rfl (fun m => y_move rfl) ?_
  all_goals (first | refine JM.gskip rfl rfl rfl rfl rfl rfl rfl ?_ | refine JM.gskipU rfl rfl rfl rfl rfl rfl ?_ | refine JM.gquiet rfl rfl rfl rfl rfl rfl (fun m => y_move rfl) ?_)
  all_goals (first | refine JM.gskip rfl rfl rfl rfl rfl rfl rfl ?_ | refine JM.gskipU rfl rfl rfl rfl rfl rfl ?_ | refine JM.gquiet rfl rfl rfl rfl rfl rfl (fun m => y_move rfl) ?_)
  all_goals (first | refine JM.gskip rfl rfl rfl rfl rfl rfl rfl ?_ | refine JM.gskipU rfl rfl rfl rfl rfl rfl ?_ | refine JM.gquiet rfl rfl rfl rfl rfl rfl (fun m => y_indexAddr_slice hT rfl rfl rfl rfl rfl (by (first | omega | exact Nat.le_of_ble_eq_true rfl | decide | (simp; omega))) (by (first | omega | exact Nat.le_of_ble_eq_true rfl | decide | (simp; omega)))) ?_)
  all_goals (first | refine JM.gskip rfl rfl rfl rfl rfl rfl rfl ?_ | refine JM.gskipU rfl rfl rfl rfl rfl rfl ?_ | refine JM.gquiet rfl rfl rfl rfl rfl rfl (fun m => y_load1 hT rfl rfl rfl (Rd1.arr (i := (a)) (Pick.app m (by (repeat (first | exact Pick.head | apply Pick.tail | apply Pick.app)))) (by (first | assumption | omega | (simp only [Array.size_setIfInBounds]; omega))) (by exact arr_off rfl (by omega)))) ?_)
  all_goals (first | refine JM.gskip rfl rfl rfl rfl rfl rfl rfl ?_ | refine JM.gskipU rfl rfl rfl rfl rfl rfl ?_ | refine JM.gquiet rfl rfl rfl rfl rfl rfl (fun m => y_move rfl) ?_)
  all_goals (first | refine JM.gskip rfl rfl rfl rfl rfl rfl rfl ?_ | refine JM.gskipU rfl rfl rfl rfl rfl rfl ?_ | refine JM.gquiet rfl rfl rfl rfl rfl rfl (fun m => y_move rfl) ?_)
  all_goals (first | refine JM.gskip rfl rfl rfl rfl rfl rfl rfl ?_ | refine JM.gskipU rfl rfl rfl rfl rfl rfl ?_ | refine JM.gquiet rfl rfl rfl rfl rfl rfl (fun m => y_indexAddr_slice hT rfl rfl rfl rfl rfl (by (first | omega | exact Nat.le_of_ble_eq_true rfl | decide | (simp; omega))) (by (first | omega | exact Nat.le_of_ble_eq_true rfl | decide | (simp; omega)))) ?_)
  all_goals (first | refine JM.gskip rfl rfl rfl rfl rfl rfl rfl ?_ | refine JM.gskipU rfl rfl rfl rfl rfl rfl ?_ | refine JM.gquiet rfl rfl rfl rfl rfl rfl (fun m => y_load1 hT rfl rfl rfl (Rd1.arr (i := (x)) (Pick.app m (by (repeat (first | exact Pick.head | apply Pick.tail | apply Pick.app)))) (by (first | assumption | omega | (simp only [Array.size_setIfInBounds]; omega))) (by exact arr_off rfl (by omega)))) ?_)
  all_goals (first | refine JM.gskip rfl rfl rfl rfl rfl rfl rfl ?_ | refine JM.gskipU rfl rfl rfl rfl rfl rfl ?_ | refine JM.gquiet rfl rfl rfl rfl rfl rfl (fun m => y_callF e112 rfl (lessI E _ _ _)) ?_)
  all_goals (first | refine JM.gskip rfl rfl rfl rfl rfl rfl rfl ?_ | refine JM.gskipU rfl rfl rfl rfl rfl rfl ?_ | refine JM.gquiet rfl rfl rfl rfl rfl rfl (fun m => y_not rfl) ?_)
  all_goals refine JM.quiet rfl rfl rfl rfl (fun m => y_pick rfl rfl rfl) ?_
  all_goals refine JM.nil ?_
 all_goals refine JE.then_normal ?_
 all_goals
  first | apply J.cond_dec rfl | apply J.cond rfl
  case' ht =>
   intro h
   try (first | (exfalso; omega) | (cases h; done) | (exfalso; simp at h; done) | subst h)
   all_goals
    rw [scanUp_go (by omega) h] at hx3
    refine J.skip ?_
  case' hf =>
   intro h
   try (first | (exfalso; omega) | (cases h; done) | (exfalso; simp at h; done) | subst h)
   all_goals
    have st1 : j < x ∨ Sort.ltInt d1[a]! d1[x]! = true := by first | exact .inl (by omega) | exact .inr (by simpa using h)
    rw [scanUp_stop (by first | exact .inl (by omega) | exact .inr h)] at hx3
    rw [← hx3] at he1
    refine J.exit (JE.then_exit (JE.then_exit (JE.block_exit (JE.then_normal (J.seq (J.block ?_))))))
    refine J.loop (α := Nat) (fun y => y ≤ j ∧ x ≤ y + 1 ∧ Sort.scanDown (fun x => Sort.ltInt d1[a]! x) d1 x y = Sort.scanDown (fun x => Sort.ltInt d1[a]! x) d1 x j) (fun y => [(0, .slice (some ⟨g, 0, none⟩) n c), (1, .int .i64 a), (9, .int .i64 x), (10, .int .i64 y)]) (fun x => arI g d1 sp :: r) (fun y => y) j ⟨Nat.le_refl _, hx2, rfl⟩ ⟨rfl, rfl, rfl, rfl, trivial⟩ (fun w h => h) ?_
    rintro y ⟨hy1, hy2, hy3⟩
    try dsimp only at hy1 hy2 hy3 ⊢
    refine J.seq (J.seq ?_)
    by_cases hg : x ≤ y
    all_goals
     refine J.draw _ _ [(0, .q), (1, .q), (2, .q), (3, .q), (4, .q), (5, .q), (6, .q), (7, .q), (8, .q), (9, .q), (10, .q), (11, .q), (12, .q), (13, .q)] mixed (by kernel_rfl) (Split.nil) ?_
     refine JM.quiet rfl rfl rfl rfl (fun m => y_move rfl) (JM.quiet rfl rfl rfl rfl (fun m => y_move rfl) ?_)
     first | refine JM.quiet rfl rfl rfl rfl (fun m => y_leqB rfl rfl (decide_eq_true (by omega))) ?_ | refine JM.quiet rfl rfl rfl rfl (fun m => y_leqB rfl rfl (decide_eq_false (by omega))) ?_
     refine JM.quiet rfl rfl rfl rfl (fun m => y_move rfl) ?_
     all_goals (first | refine JM.gskip rfl rfl rfl rfl rfl rfl rfl ?_ | refine JM.gskipU rfl rfl rfl rfl rfl rfl ?_ | refine JM.gquiet rfl rfl rfl rfl rfl rfl (fun m => y_move rfl) ?_)
     all_goals (first | refine JM.gskip rfl rfl rfl rfl rfl rfl rfl ?_ | refine JM.gskipU rfl rfl rfl rfl rfl rfl ?_ | refine JM.gquiet rfl rfl rfl rfl rfl rfl (fun m => y_move rfl) ?_)
     all_goals (first | refine JM.gskip rfl rfl rfl rfl rfl rfl rfl ?_ | refine JM.gskipU rfl rfl rfl rfl rfl rfl ?_ | refine JM.gquiet rfl rfl rfl rfl rfl rfl (fun m => y_indexAddr_slice hT rfl rfl rfl rfl rfl (by (first | omega | exact Nat.le_of_ble_eq_true rfl | decide | (simp; omega))) (by (first | omega | exact Nat.le_of_ble_eq_true rfl | decide | (simp; omega)))) ?_)
     all_goals (first | refine JM.gskip rfl rfl rfl rfl rfl rfl rfl ?_ | refine JM.gskipU rfl rfl rfl rfl rfl rfl ?_ | refine JM.gquiet rfl rfl rfl rfl rfl rfl (fun m => y_load1 hT rfl rfl rfl (Rd1.arr (i := (a)) (Pick.app m (by (repeat (first | exact Pick.head | apply Pick.tail | apply Pick.app)))) (by (first | assumption | omega | (simp only [Array.size_setIfInBounds]; omega))) (by exact arr_off rfl (by omega)))) ?_)
     all_goals (first | refine JM.gskip rfl rfl rfl rfl rfl rfl rfl ?_ | refine JM.gskipU rfl rfl rfl rfl rfl rfl ?_ | refine JM.gquiet rfl rfl rfl rfl rfl rfl (fun m => y_move rfl) ?_)
     all_goals (first | refine JM.gskip rfl rfl rfl rfl rfl rfl rfl ?_ | refine JM.gskipU rfl rfl rfl rfl rfl rfl ?_ | refine JM.gquiet rfl rfl rfl rfl rfl rfl (fun m => y_move rfl) ?_)
     all_goals (first | refine JM.gskip rfl rfl rfl rfl rfl rfl rfl ?_ | refine JM.gskipU rfl rfl rfl rfl rfl rfl ?_ | refine JM.gquiet rfl rfl rfl rfl rfl rfl (fun m => y_indexAddr_slice hT rfl rfl rfl rfl rfl (by (first | omega | exact Nat.le_of_ble_eq_true rfl | decide | (simp; omega))) (by (first | omega | exact Nat.le_of_ble_eq_true rfl | decide | (simp; omega)))) ?_)
     all_goals (first | refine JM.gskip rfl rfl rfl rfl rfl rfl rfl ?_ | refine JM.gskipU rfl rfl rfl rfl rfl rfl ?_ | refine JM.gquiet rfl rfl rfl rfl rfl rfl (fun m => y_load1 hT rfl rfl rfl (Rd1.arr (i := (y)) (Pick.app m (by (repeat (first | exact Pick.head | apply Pick.tail | apply Pick.app)))) (by (first | assumption | omega | (simp only [Array.size_setIfInBounds]; omega))) (by exact arr_off rfl (by omega)))) ?_)
     all_goals (first | refine JM.gskip rfl rfl rfl rfl rfl rfl rfl ?_ | refine JM.gskipU rfl rfl rfl rfl rfl rfl ?_ | refine JM.gquiet rfl rfl rfl rfl rfl rfl (fun m => y_callF e112 rfl (lessI E _ _ _)) ?_)
     all_goals refine JM.quiet rfl rfl rfl rfl (fun m => y_pick rfl rfl rfl) ?_
     all_goals refine JM.nil ?_
    all_goals refine JE.then_normal ?_
    all_goals
     first | apply J.cond_dec rfl | apply J.cond rfl
     case' ht =>
      intro h
      try (first | (exfalso; omega) | (cases h; done) | (exfalso; simp at h; done) | subst h)
      all_goals
       rw [scanDown_go (by omega) (by omega) h] at hy3
       refine J.skip ?_
     case' hf =>
      intro h
      try (first | (exfalso; omega) | (cases h; done) | (exfalso; simp at h; done) | subst h)
      all_goals
       have st2 : y < x ∨ Sort.ltInt d1[a]! d1[y]! = false := by first | exact .inl (by omega) | exact .inr h
       rw [scanDown_stop (by first | exact .inl (by omega) | exact .inr h)] at hy3
       rw [← hy3] at he1
       refine J.exit (JE.then_exit (JE.then_exit (JE.block_exit (JE.then_normal (J.seq (J.seq (J.region (JL.step (y_move rfl) rfl rfl rfl (JL.step (y_move rfl) rfl rfl rfl (JL.step (y_gtr rfl rfl) rfl rfl rfl ?_))))))))))
       refine JL.nil (JE.then_normal ?_)
       first | apply J.cond_dec rfl | apply J.cond rfl
       case' ht =>
        intro h
        try (first | (exfalso; omega) | (cases h; done) | (exfalso; simp at h; done) | subst h)
        all_goals
         rw [if_pos (by omega)] at he1
         refine J.exit (JE.then_exit ?_)
         refine JE.block_past rfl ?_
         refine JE.then_exit (JE.block_exit (JE.then_normal (J.seq (J.region (JL.step (y_move rfl) rfl rfl rfl (JL.step (y_assign rfl) rfl rfl rfl ?_))))))
         refine JL.nil (JE.then_normal (J.ret ?_))
         refine JE.ret1 (.inl rfl) rfl rfl (by (first | exact RV.tmp rfl | exact RV.cell1 hT rfl rfl rfl (by (exact Rd1.row (by (repeat (first | exact Pick.head | apply Pick.tail | apply Pick.app))) (by rfl))) | exact RV.cellN hT rfl rfl rfl (by (first | exact RdN.rowAll (by (repeat (first | exact Pick.head | apply Pick.tail | apply Pick.app))) | exact RdN.own (by (repeat (first | exact Pick.head | apply Pick.tail | apply Pick.app))))) (by (first | rfl | assumption | (simp; done) | omega)))) ?_
         exact ⟨by rw [← he1], fun w h => by rw [← he1]; exact h⟩
       case' hf =>
        intro h
        try (first | (exfalso; omega) | (cases h; done) | (exfalso; simp at h; done) | subst h)
        all_goals
         rw [if_neg (by omega)] at he1
         have hne : ¬ x = y := by
          rintro rfl
          rcases st1 with q | q
          · omega
          · rcases st2 with q2 | q2
            · omega
            · rw [q] at q2; cases q2
         refine J.skip ?_
       all_goals refine JE.then_normal ?_
       all_goals
        refine J.seq ?_
        refine J.draw _ _ [(0, .q), (1, .q), (2, .q), (3, .q), (4, .q), (5, .q), (6, .q), (8, .q), (9, .q), (10, .q), (7, .e), (11, .e), (12, .q), (13, .l), (14, .q), (15, .l)] mixed (by kernel_rfl) (Split.cons (Pick.head) (Split.nil)) ?_
        refine JM.quiet rfl rfl rfl rfl (fun m => y_move rfl) (JM.quiet rfl rfl rfl rfl (fun m => y_move rfl) (JM.quiet rfl rfl rfl rfl (fun m => y_move rfl) (JM.quiet rfl rfl rfl rfl (fun m => y_move rfl) (JM.quiet rfl rfl rfl rfl (fun m => y_move rfl) (JM.quiet rfl rfl rfl rfl (fun m => y_move rfl) ?_)))))
        refine JM.quiet rfl rfl rfl rfl (fun m => y_indexAddr_slice hT rfl rfl rfl rfl rfl (by (first | omega | exact Nat.le_of_ble_eq_true rfl | decide | (simp; omega))) (by (first | omega | exact Nat.le_of_ble_eq_true rfl | decide | (simp; omega)))) ?_
        refine JM.quiet rfl rfl rfl rfl (fun m => y_move rfl) (JM.quiet rfl rfl rfl rfl (fun m => y_move rfl) ?_)
        refine JM.quiet rfl rfl rfl rfl (fun m => y_indexAddr_slice hT rfl rfl rfl rfl rfl (by (first | omega | exact Nat.le_of_ble_eq_true rfl | decide | (simp; omega))) (by (first | omega | exact Nat.le_of_ble_eq_true rfl | decide | (simp; omega)))) ?_
        refine JM.early rfl rfl rfl rfl (fun fr => y_load1 hT rfl rfl rfl (Rd1.arr (i := (y)) (by (repeat (first | exact Pick.head | apply Pick.tail | apply Pick.app))) (by (first | assumption | omega | (simp only [Array.size_setIfInBounds]; omega))) (by exact arr_off rfl (by omega)))) ?_
        refine JM.early rfl rfl rfl rfl (fun fr => y_load1 hT rfl rfl rfl (Rd1.arr (i := (x)) (by (repeat (first | exact Pick.head | apply Pick.tail | apply Pick.app))) (by (first | assumption | omega | (simp only [Array.size_setIfInBounds]; omega))) (by exact arr_off rfl (by omega)))) ?_
        refine JM.quiet rfl rfl rfl rfl (fun m => y_indexAddr_slice hT rfl rfl rfl rfl rfl (by (first | omega | exact Nat.le_of_ble_eq_true rfl | decide | (simp; omega))) (by (first | omega | exact Nat.le_of_ble_eq_true rfl | decide | (simp; omega)))) ?_
        refine JM.loud rfl rfl (fun fr => l_storeArr (j := (x)) (u := d1[y]!) hT rfl rfl rfl rfl (fun _ => rfl) (by (repeat (first | exact Pick.head | apply Pick.tail | apply Pick.app))) (by (first | assumption | omega | (simp only [Array.size_setIfInBounds]; omega))) (by exact arr_off rfl (by omega)) (⟨[_], (by (repeat (first | exact Split.nil | exact Split.all | refine Split.cons Pick.head ?_))), ?_⟩))
        refine JM.quiet rfl rfl rfl rfl (fun m => y_indexAddr_slice hT rfl rfl rfl rfl rfl (by (first | omega | exact Nat.le_of_ble_eq_true rfl | decide | (simp; omega))) (by (first | omega | exact Nat.le_of_ble_eq_true rfl | decide | (simp; omega)))) ?_
        refine JM.loud rfl rfl (fun fr => l_storeArr (j := (y)) (u := d1[x]!) hT rfl rfl rfl rfl (fun _ => rfl) (by (repeat (first | exact Pick.head | apply Pick.tail | apply Pick.app))) (by (first | assumption | omega | (simp only [Array.size_setIfInBounds]; omega))) (by exact arr_off rfl (by omega)) (⟨[_], (by (repeat (first | exact Split.nil | exact Split.all | refine Split.cons Pick.head ?_))), ?_⟩))
        refine JM.nil (JE.then_normal (J.seq (J.region (JL.step (y_move rfl) rfl rfl rfl ?_))))
        refine JL.step (y_add rfl rfl (by (first | exact wrap_i64 (by omega) (by omega) | rfl))) rfl rfl rfl ?_
        refine JL.step (y_assign rfl) rfl rfl rfl ?_
        refine JL.nil (JE.then_normal (J.region (JL.step (y_move rfl) rfl rfl rfl ?_)))
        refine JL.step (y_sub rfl rfl (by (first | exact wrap_i64 (by omega) (by omega) | rfl))) rfl rfl rfl ?_
        refine JL.step (y_assign rfl) rfl rfl rfl ?_
        refine JL.nil ?_
       all_goals
        refine JE.block_normal ?_
        exact JE.round (s := (i, j, d1)) (x + 1, y - 1, Sort.swp d1 x y) ⟨by dsimp only; omega, by dsimp only; omega, by dsimp only; omega, by dsimp only; omega, by dsimp only; rw [swp_size]; exact hs1, he1⟩ ⟨rfl, rfl, (congrArg (fun z => some (Value.int .i64 z)) (by first | omega | (dsimp only; omega))), (congrArg (fun z => some (Value.int .i64 z)) (by first | omega | (dsimp only; omega))), trivial⟩ (fun w h => h) (by dsimp only; omega)
    all_goals refine JE.then_normal ?_
    all_goals
     refine J.block (J.region (JL.step (y_move rfl) rfl rfl rfl ?_))
     refine JL.step (y_sub rfl rfl (by (first | exact wrap_i64 (by omega) (by omega) | rfl))) rfl rfl rfl ?_
     refine JL.step (y_assign rfl) rfl rfl rfl ?_
     refine JL.nil (JE.block_normal ?_)
    all_goals
     exact JE.round (s := y) (y - 1) ⟨by omega, by omega, hy3⟩ ⟨rfl, rfl, rfl, (congrArg (fun z => some (Value.int .i64 z)) (by first | omega | (dsimp only; omega))), trivial⟩ (fun w h => h) (by omega)
 all_goals refine JE.then_normal ?_
 all_goals
  refine J.block (J.region (JL.step (y_move rfl) rfl rfl rfl ?_))
  refine JL.step (y_add rfl rfl (by (first | exact wrap_i64 (by omega) (by omega) | rfl))) rfl rfl rfl ?_
  refine JL.step (y_assign rfl) rfl rfl rfl ?_
  refine JL.nil (JE.block_normal ?_)
 all_goals
  exact JE.round (s := x) (x + 1) ⟨by omega, by omega, hx3⟩ ⟨rfl, rfl, (congrArg (fun z => some (Value.int .i64 z)) (by first | omega | (dsimp only; omega))), rfl, trivial⟩ (fun w h => h) (by omega)
theorem partI (g c n a b p : Nat) (ia ib ip : Int) (d : Array Int) (sp : List Value) (r : List HProp) (ea : ia = a) (eb : ib = b) (ep : ip = p) (hn : d.size = n) (hp1 : a ≤ p) (hp2 : p < b) (hb : b ≤ n) (h63 : n < 4611686018427387904) :
 Fc prog E 114 [.slice (some ⟨g, 0, none⟩) n c, .int .i64 ia, .int .i64 ib, .int .i64 ip].toArray (arI g d sp :: r) (fun v l' => v = .tuple #[.int .i64 ((Sort.partition Sort.ltInt d a b p).1 : Int), .bool (Sort.partition Sort.ltInt d a b p).2.1] ∧ l' = arI g (Sort.partition Sort.ltInt d a b p).2.2 sp :: r) := by
 refine Fc.eqs ?_
 subst ea eb ep
 generalize hres : Sort.partition Sort.ltInt d a b p = res
 obtain ⟨d0, hd0⟩ : ∃ d0, Sort.swp d a p = d0 := ⟨_, rfl⟩
 rw [partition_eq, hd0] at hres
 have hs0 : d0.size = n := by rw [← hd0, swp_size]; exact hn
 refine Fc.of_body (c := ?codeC) Tryd.func114 ?hb Tryd.ntmps114 ?hl ?_
 case hb => exact rfl
 case hl => exact rfl
 refine J.seq (J.region (JL.step (y_assign rfl) rfl rfl rfl (JL.step (y_assign rfl) rfl rfl rfl ?_)))
 refine JL.nil (JE.then_normal (J.seq ?_))
 refine J.draw _ _ [(0, .q), (1, .q), (2, .q), (3, .q), (4, .q), (5, .q), (6, .q), (8, .q), (9, .q), (10, .q), (7, .e), (11, .e), (12, .q), (13, .l), (14, .q), (15, .l)] mixed (by kernel_rfl) (Split.cons (Pick.head) (Split.nil)) ?_
 refine JM.quiet rfl rfl rfl rfl (fun m => y_move rfl) (JM.quiet rfl rfl rfl rfl (fun m => y_move rfl) (JM.quiet rfl rfl rfl rfl (fun m => y_move rfl) (JM.quiet rfl rfl rfl rfl (fun m => y_move rfl) (JM.quiet rfl rfl rfl rfl (fun m => y_move rfl) (JM.quiet rfl rfl rfl rfl (fun m => y_move rfl) ?_)))))
 refine JM.quiet rfl rfl rfl rfl (fun m => y_indexAddr_slice hT rfl rfl rfl rfl rfl (by (first | omega | exact Nat.le_of_ble_eq_true rfl | decide | (simp; omega))) (by (first | omega | exact Nat.le_of_ble_eq_true rfl | decide | (simp; omega)))) ?_
 refine JM.quiet rfl rfl rfl rfl (fun m => y_move rfl) (JM.quiet rfl rfl rfl rfl (fun m => y_move rfl) ?_)
 refine JM.quiet rfl rfl rfl rfl (fun m => y_indexAddr_slice hT rfl rfl rfl rfl rfl (by (first | omega | exact Nat.le_of_ble_eq_true rfl | decide | (simp; omega))) (by (first | omega | exact Nat.le_of_ble_eq_true rfl | decide | (simp; omega)))) ?_
 refine JM.early rfl rfl rfl rfl (fun fr => y_load1 hT rfl rfl rfl (Rd1.arr (i := (p)) (by (repeat (first | exact Pick.head | apply Pick.tail | apply Pick.app))) (by (first | assumption | omega | (simp only [Array.size_setIfInBounds]; omega))) (by exact arr_off rfl (by omega)))) ?_
 refine JM.early rfl rfl rfl rfl (fun fr => y_load1 hT rfl rfl rfl (Rd1.arr (i := (a)) (by (repeat (first | exact Pick.head | apply Pick.tail | apply Pick.app))) (by (first | assumption | omega | (simp only [Array.size_setIfInBounds]; omega))) (by exact arr_off rfl (by omega)))) ?_
 refine JM.quiet rfl rfl rfl rfl (fun m => y_indexAddr_slice hT rfl rfl rfl rfl rfl (by (first | omega | exact Nat.le_of_ble_eq_true rfl | decide | (simp; omega))) (by (first | omega | exact Nat.le_of_ble_eq_true rfl | decide | (simp; omega)))) ?_
 refine JM.loud rfl rfl (fun fr => l_storeArr (j := (a)) (u := d[p]!) hT rfl rfl rfl rfl (fun _ => rfl) (by (repeat (first | exact Pick.head | apply Pick.tail | apply Pick.app))) (by (first | assumption | omega | (simp only [Array.size_setIfInBounds]; omega))) (by exact arr_off rfl (by omega)) (⟨[_], (by (repeat (first | exact Split.nil | exact Split.all | refine Split.cons Pick.head ?_))), ?_⟩))
 refine JM.quiet rfl rfl rfl rfl (fun m => y_indexAddr_slice hT rfl rfl rfl rfl rfl (by (first | omega | exact Nat.le_of_ble_eq_true rfl | decide | (simp; omega))) (by (first | omega | exact Nat.le_of_ble_eq_true rfl | decide | (simp; omega)))) ?_
 refine JM.loud rfl rfl (fun fr => l_storeArr (j := (p)) (u := d[a]!) hT rfl rfl rfl rfl (fun _ => rfl) (by (repeat (first | exact Pick.head | apply Pick.tail | apply Pick.app))) (by (first | assumption | omega | (simp only [Array.size_setIfInBounds]; omega))) (by exact arr_off rfl (by omega)) (⟨[_], (by (repeat (first | exact Split.nil | exact Split.all | refine Split.cons Pick.head ?_))), ?_⟩))
 refine JM.nil (JE.then_normal (J.seq (J.region (JL.step (y_move rfl) rfl rfl rfl ?_))))
 refine JL.step (y_add rfl rfl (by (first | exact wrap_i64 (by omega) (by omega) | rfl))) rfl rfl rfl ?_
 refine JL.step (y_move rfl) rfl rfl rfl ?_
 refine JL.step (y_sub rfl rfl (by (first | exact wrap_i64 (by omega) (by omega) | rfl))) rfl rfl rfl ?_
 refine JL.step (y_assign rfl) rfl rfl rfl (JL.step (y_assign rfl) rfl rfl rfl ?_)
 refine JL.nil (JE.then_normal (J.seq (J.block ?_)))
 refine J.loop (α := Nat) (fun x => a < x ∧ x ≤ b ∧ Sort.scanUp (fun x => Sort.ltInt x d0[a]!) d0 (b - 1) x = Sort.scanUp (fun x => Sort.ltInt x d0[a]!) d0 (b - 1) (a + 1)) (fun x => [(0, .slice (some ⟨g, 0, none⟩) n c), (1, .int .i64 a), (10, .int .i64 x), (11, .int .i64 ((b - 1 : Nat) : Int))]) (fun x => arI g d0 sp :: r) (fun x => b - x) (a + 1) ⟨by omega, by omega, rfl⟩ ⟨rfl, rfl, (congrArg (fun z => some (Value.int .i64 z)) (by first | omega | (dsimp only; omega))), (congrArg (fun z => some (Value.int .i64 z)) (by first | omega | (dsimp only; omega))), trivial⟩ (fun w h => by rw [← hd0]; exact h) ?_
 rintro x ⟨hx1, hx2, hx3⟩
 try dsimp only at hx1 hx2 hx3 ⊢
 refine J.seq (J.seq ?_)
 by_cases hg : x ≤ b - 1
 all_goals
  refine J.draw _ _ [(0, .q), (1, .q), (2, .q), (3, .q), (4, .q), (5, .q), (6, .q), (7, .q), (8, .q), (9, .q), (10, .q), (11, .q), (12, .q), (13, .q)] mixed (by kernel_rfl) (Split.nil) ?_
  refine JM.quiet rfl rfl rfl rfl (fun m => y_move rfl) (JM.quiet rfl rfl rfl rfl (fun m => y_move rfl) ?_)
  first | refine JM.quiet rfl rfl rfl rfl (fun m => y_leqB rfl rfl (decide_eq_true (by omega))) ?_ | refine JM.quiet rfl rfl rfl rfl (fun m => y_leqB rfl rfl (decide_eq_false (by omega))) ?_
  refine JM.quiet rfl rfl rfl rfl (fun m => y_move rfl) ?_
  all_goals (first | refine JM.gskip rfl rfl rfl rfl rfl rfl rfl ?_ | refine JM.gskipU rfl rfl rfl rfl rfl rfl ?_ | refine JM.gquiet rfl rfl rfl rfl rfl rfl (fun m => y_move rfl) ?_)
  all_goals (first | refine JM.gskip rfl rfl rfl rfl rfl rfl rfl ?_ | refine JM.gskipU rfl rfl rfl rfl rfl rfl ?_ | refine JM.gquiet rfl rfl rfl rfl rfl rfl (fun m => y_move rfl) ?_)
  all_goals (first | refine JM.gskip rfl rfl rfl rfl rfl rfl rfl ?_ | refine JM.gskipU rfl rfl rfl rfl rfl rfl ?_ | refine JM.gquiet rfl rfl rfl rfl rfl rfl (fun m => y_indexAddr_slice hT rfl rfl rfl rfl rfl (by (first | omega | exact Nat.le_of_ble_eq_true rfl | decide | (simp; omega))) (by (first | omega | exact Nat.le_of_ble_eq_true rfl | decide | (simp; omega)))) ?_)
  all_goals (first | refine JM.gskip rfl rfl rfl rfl rfl rfl rfl ?_ | refine JM.gskipU rfl rfl rfl rfl rfl rfl ?_ | refine JM.gquiet rfl rfl rfl rfl rfl rfl (fun m => y_load1 hT rfl rfl rfl (Rd1.arr (i := (x)) (Pick.app m (by (repeat (first | exact Pick.head | apply Pick.tail | apply Pick.app)))) (by (first | assumption | omega | (simp only [Array.size_setIfInBounds]; omega))) (by exact arr_off rfl (by omega)))) ?_)
  all_goals (first | refine JM.gskip rfl rfl rfl rfl rfl rfl rfl ?_ | refine JM.gskipU rfl rfl rfl rfl rfl rfl ?_ | refine JM.gquiet rfl rfl rfl rfl rfl rfl (fun m => y_move rfl) ?_)
  all_goals (first | refine JM.gskip rfl rfl rfl rfl rfl rfl rfl ?_ | refine JM.gskipU rfl rfl rfl rfl rfl rfl ?_ | refine JM.gquiet rfl rfl rfl rfl rfl rfl (fun m => y_move rfl) ?_)
  all_goals (first | refine JM.gskip rfl rfl rfl rfl rfl rfl rfl ?_ | refine JM.gskipU rfl rfl rfl rfl rfl rfl ?_ | refine JM.gquiet rfl rfl rfl rfl rfl rfl (fun m => y_indexAddr_slice hT rfl rfl rfl rfl rfl (by (first | omega | exact Nat.le_of_ble_eq_true rfl | decide | (simp; omega))) (by (first | omega | exact Nat.le_of_ble_eq_true rfl | decide | (simp; omega)))) ?_)
  all_goals (first | refine JM.gskip rfl rfl rfl rfl rfl rfl rfl ?_ | refine JM.gskipU rfl rfl rfl rfl rfl rfl ?_ | refine JM.gquiet rfl rfl rfl rfl rfl rfl (fun m => y_load1 hT rfl rfl rfl (Rd1.arr (i := (a)) (Pick.app m (by (repeat (first | exact Pick.head | apply Pick.tail | apply Pick.app)))) (by (first | assumption | omega | (simp only [Array.size_setIfInBounds]; omega))) (by exact arr_off rfl (by omega)))) ?_)
  all_goals (first | refine JM.gskip rfl rfl rfl rfl rfl rfl rfl ?_ | refine JM.gskipU rfl rfl rfl rfl rfl rfl ?_ | refine JM.gquiet rfl rfl rfl rfl rfl rfl (fun m => y_callF e112 rfl (lessI E _ _ _)) ?_)
  all_goals refine JM.quiet rfl rfl rfl rfl (fun m => y_pick rfl rfl rfl) ?_
  all_goals refine JM.nil ?_
 all_goals refine JE.then_normal ?_
 all_goals
  first | apply J.cond_dec rfl | apply J.cond rfl
  case' ht =>
   intro h
   try (first | (exfalso; omega) | (cases h; done) | (exfalso; simp at h; done) | subst h)
   all_goals
    rw [scanUp_go (p := fun x => Sort.ltInt x d0[a]!) (by omega) h] at hx3
    refine J.skip ?_
  case' hf =>
   intro h
   try (first | (exfalso; omega) | (cases h; done) | (exfalso; simp at h; done) | subst h)
   all_goals
    have st1 : b - 1 < x ∨ Sort.ltInt d0[x]! d0[a]! = false := by first | exact .inl (by omega) | exact .inr h
    rw [scanUp_stop (p := fun x => Sort.ltInt x d0[a]!) (by first | exact .inl (by omega) | exact .inr h)] at hx3
    rw [← hx3] at hres
    refine J.exit (JE.then_exit (JE.then_exit (JE.block_exit (JE.then_normal (J.seq (J.block ?_))))))
    refine J.loop (α := Nat) (fun y => y ≤ b - 1 ∧ x ≤ y + 1 ∧ Sort.scanDown (fun x => !Sort.ltInt x d0[a]!) d0 x y = Sort.scanDown (fun x => !Sort.ltInt x d0[a]!) d0 x (b - 1)) (fun y => [(0, .slice (some ⟨g, 0, none⟩) n c), (1, .int .i64 a), (10, .int .i64 x), (11, .int .i64 y)]) (fun y => arI g d0 sp :: r) (fun y => y) (b - 1) ⟨Nat.le_refl _, by omega, rfl⟩ ⟨rfl, rfl, rfl, rfl, trivial⟩ (fun w h => h) ?_
    rintro y ⟨hy1, hy2, hy3⟩
    try dsimp only at hy1 hy2 hy3 ⊢
    refine J.seq (J.seq ?_)
    by_cases hg : x ≤ y
    all_goals
     refine J.draw _ _ [(0, .q), (1, .q), (2, .q), (3, .q), (4, .q), (5, .q), (6, .q), (7, .q), (8, .q), (9, .q), (10, .q), (11, .q), (12, .q), (13, .q), (14, .q)] mixed (by kernel_rfl) (Split.nil) ?_
     refine JM.quiet rfl rfl rfl rfl (fun m => y_move rfl) (JM.quiet rfl rfl rfl rfl (fun m => y_move rfl) ?_)
     first | refine JM.quiet rfl rfl rfl rfl (fun m => y_leqB rfl rfl (decide_eq_true (by omega))) ?_ | refine JM.quiet rfl rfl rfl rfl (fun m => y_leqB rfl rfl (decide_eq_false (by omega))) ?_
     refine JM.quiet rfl rfl rfl rfl (fun m => y_move rfl) ?_
     all_goals (first | refine JM.gskip rfl rfl rfl rfl rfl rfl rfl ?_ | refine JM.gskipU rfl rfl rfl rfl rfl rfl ?_ | refine JM.gquiet rfl rfl rfl rfl rfl rfl (fun m => y_move rfl) ?_)
     all_goals (first | refine JM.gskip rfl rfl rfl rfl rfl rfl rfl ?_ | refine JM.gskipU rfl rfl rfl rfl rfl rfl ?_ | refine JM.gquiet rfl rfl rfl rfl rfl rfl (fun m => y_move rfl) ?_)
     all_goals (first | refine JM.gskip rfl rfl rfl rfl rfl rfl rfl ?_ | refine JM.gskipU rfl rfl rfl rfl rfl rfl ?_ | refine JM.gquiet rfl rfl rfl rfl rfl rfl (fun m => y_indexAddr_slice hT rfl rfl rfl rfl rfl (by (first | omega | exact Nat.le_of_ble_eq_true rfl | decide | (simp; omega))) (by (first | omega | exact Nat.le_of_ble_eq_true rfl | decide | (simp; omega)))) ?_)
     all_goals (first | refine JM.gskip rfl rfl rfl rfl rfl rfl rfl ?_ | refine JM.gskipU rfl rfl rfl rfl rfl rfl ?_ | refine JM.gquiet rfl rfl rfl rfl rfl rfl (fun m => y_load1 hT rfl rfl rfl (Rd1.arr (i := (y)) (Pick.app m (by (repeat (first | exact Pick.head | apply Pick.tail | apply Pick.app)))) (by (first | assumption | omega | (simp only [Array.size_setIfInBounds]; omega))) (by exact arr_off rfl (by omega)))) ?_)
     all_goals (first | refine JM.gskip rfl rfl rfl rfl rfl rfl rfl ?_ | refine JM.gskipU rfl rfl rfl rfl rfl rfl ?_ | refine JM.gquiet rfl rfl rfl rfl rfl rfl (fun m => y_move rfl) ?_)
     all_goals (first | refine JM.gskip rfl rfl rfl rfl rfl rfl rfl ?_ | refine JM.gskipU rfl rfl rfl rfl rfl rfl ?_ | refine JM.gquiet rfl rfl rfl rfl rfl rfl (fun m => y_move rfl) ?_)
     all_goals (first | refine JM.gskip rfl rfl rfl rfl rfl rfl rfl ?_ | refine JM.gskipU rfl rfl rfl rfl rfl rfl ?_ | refine JM.gquiet rfl rfl rfl rfl rfl rfl (fun m => y_indexAddr_slice hT rfl rfl rfl rfl rfl (by (first | omega | exact Nat.le_of_ble_eq_true rfl | decide | (simp; omega))) (by (first | omega | exact Nat.le_of_ble_eq_true rfl | decide | (simp; omega)))) ?_)
     all_goals (first | refine JM.gskip rfl rfl rfl rfl rfl rfl rfl ?_ | refine JM.gskipU rfl rfl rfl rfl rfl rfl ?_ | refine JM.gquiet rfl rfl rfl rfl rfl rfl (fun m => y_load1 hT rfl rfl rfl (Rd1.arr (i := (a)) (Pick.app m (by (repeat (first | exact Pick.head | apply Pick.tail | apply Pick.app)))) (by (first | assumption | omega | (simp only [Array.size_setIfInBounds]; omega))) (by exact arr_off rfl (by omega)))) ?_)
     all_goals (first | refine JM.gskip rfl rfl rfl rfl rfl rfl rfl ?_ | refine JM.gskipU rfl rfl rfl rfl rfl rfl ?_ | refine JM.gquiet rfl rfl rfl rfl rfl rfl (fun m => y_callF e112 rfl (lessI E _ _ _)) ?_)
     all_goals (first | refine JM.gskip rfl rfl rfl rfl rfl rfl rfl ?_ | refine JM.gskipU rfl rfl rfl rfl rfl rfl ?_ | refine JM.gquiet rfl rfl rfl rfl rfl rfl (fun m => y_not rfl) ?_)
     all_goals refine JM.quiet rfl rfl rfl rfl (fun m => y_pick rfl rfl rfl) ?_
     all_goals refine JM.nil ?_
    all_goals refine JE.then_normal ?_
    all_goals
     first | apply J.cond_dec rfl | apply J.cond rfl
     case' ht =>
      intro h
      try (first | (exfalso; omega) | (cases h; done) | (exfalso; simp at h; done) | subst h)
      all_goals
       rw [scanDown_go (p := fun x => !Sort.ltInt x d0[a]!) (by omega) (by omega) h] at hy3
       refine J.skip ?_
     case' hf =>
      intro h
      try (first | (exfalso; omega) | (cases h; done) | (exfalso; simp at h; done) | subst h)
      all_goals
       have st2 : y < x ∨ Sort.ltInt d0[y]! d0[a]! = true := by first | exact .inl (by omega) | exact .inr (by simpa using h)
       rw [scanDown_stop (p := fun x => !Sort.ltInt x d0[a]!) (by first | exact .inl (by omega) | exact .inr h)] at hy3
       rw [← hy3] at hres
       refine J.exit (JE.then_exit (JE.then_exit (JE.block_exit (JE.then_normal (J.seq (J.seq (J.region (JL.step (y_move rfl) rfl rfl rfl (JL.step (y_move rfl) rfl rfl rfl (JL.step (y_gtr rfl rfl) rfl rfl rfl ?_))))))))))
       refine JL.nil (JE.then_normal ?_)
       first | apply J.cond_dec rfl | apply J.cond rfl
       case' ht =>
        intro h
        try (first | (exfalso; omega) | (cases h; done) | (exfalso; simp at h; done) | subst h)
        all_goals
         rw [if_pos (by omega)] at hres
         refine J.seq ?_
         refine J.draw _ _ [(0, .q), (1, .q), (2, .q), (3, .q), (4, .q), (5, .q), (6, .q), (8, .q), (9, .q), (10, .q), (7, .e), (11, .e), (12, .q), (13, .l), (14, .q), (15, .l)] mixed (by kernel_rfl) (Split.cons (Pick.head) (Split.nil)) ?_
         refine JM.quiet rfl rfl rfl rfl (fun m => y_move rfl) (JM.quiet rfl rfl rfl rfl (fun m => y_move rfl) (JM.quiet rfl rfl rfl rfl (fun m => y_move rfl) (JM.quiet rfl rfl rfl rfl (fun m => y_move rfl) (JM.quiet rfl rfl rfl rfl (fun m => y_move rfl) (JM.quiet rfl rfl rfl rfl (fun m => y_move rfl) ?_)))))
         refine JM.quiet rfl rfl rfl rfl (fun m => y_indexAddr_slice hT rfl rfl rfl rfl rfl (by (first | omega | exact Nat.le_of_ble_eq_true rfl | decide | (simp; omega))) (by (first | omega | exact Nat.le_of_ble_eq_true rfl | decide | (simp; omega)))) ?_
         refine JM.quiet rfl rfl rfl rfl (fun m => y_move rfl) (JM.quiet rfl rfl rfl rfl (fun m => y_move rfl) ?_)
         refine JM.quiet rfl rfl rfl rfl (fun m => y_indexAddr_slice hT rfl rfl rfl rfl rfl (by (first | omega | exact Nat.le_of_ble_eq_true rfl | decide | (simp; omega))) (by (first | omega | exact Nat.le_of_ble_eq_true rfl | decide | (simp; omega)))) ?_
         refine JM.early rfl rfl rfl rfl (fun fr => y_load1 hT rfl rfl rfl (Rd1.arr (i := (a)) (by (repeat (first | exact Pick.head | apply Pick.tail | apply Pick.app))) (by (first | assumption | omega | (simp only [Array.size_setIfInBounds]; omega))) (by exact arr_off rfl (by omega)))) ?_
         refine JM.early rfl rfl rfl rfl (fun fr => y_load1 hT rfl rfl rfl (Rd1.arr (i := (y)) (by (repeat (first | exact Pick.head | apply Pick.tail | apply Pick.app))) (by (first | assumption | omega | (simp only [Array.size_setIfInBounds]; omega))) (by exact arr_off rfl (by omega)))) ?_
         refine JM.quiet rfl rfl rfl rfl (fun m => y_indexAddr_slice hT rfl rfl rfl rfl rfl (by (first | omega | exact Nat.le_of_ble_eq_true rfl | decide | (simp; omega))) (by (first | omega | exact Nat.le_of_ble_eq_true rfl | decide | (simp; omega)))) ?_
         refine JM.loud rfl rfl (fun fr => l_storeArr (j := (y)) (u := d0[a]!) hT rfl rfl rfl rfl (fun _ => rfl) (by (repeat (first | exact Pick.head | apply Pick.tail | apply Pick.app))) (by (first | assumption | omega | (simp only [Array.size_setIfInBounds]; omega))) (by exact arr_off rfl (by omega)) (⟨[_], (by (repeat (first | exact Split.nil | exact Split.all | refine Split.cons Pick.head ?_))), ?_⟩))
         refine JM.quiet rfl rfl rfl rfl (fun m => y_indexAddr_slice hT rfl rfl rfl rfl rfl (by (first | omega | exact Nat.le_of_ble_eq_true rfl | decide | (simp; omega))) (by (first | omega | exact Nat.le_of_ble_eq_true rfl | decide | (simp; omega)))) ?_
         refine JM.loud rfl rfl (fun fr => l_storeArr (j := (a)) (u := d0[y]!) hT rfl rfl rfl rfl (fun _ => rfl) (by (repeat (first | exact Pick.head | apply Pick.tail | apply Pick.app))) (by (first | assumption | omega | (simp only [Array.size_setIfInBounds]; omega))) (by exact arr_off rfl (by omega)) (⟨[_], (by (repeat (first | exact Split.nil | exact Split.all | refine Split.cons Pick.head ?_))), ?_⟩))
         refine JM.nil (JE.then_normal (J.seq (J.region (JL.step (y_move rfl) rfl rfl rfl (JL.step (y_assign rfl) rfl rfl rfl (JL.step (y_assign rfl) rfl rfl rfl ?_))))))
         refine JL.nil (JE.then_normal (J.ret (JE.then_ret ?_)))
         refine JE.ret2 (.inl rfl) rfl rfl (by (first | exact RV.tmp rfl | exact RV.cell1 hT rfl rfl rfl (by (exact Rd1.row (by (repeat (first | exact Pick.head | apply Pick.tail | apply Pick.app))) (by rfl))) | exact RV.cellN hT rfl rfl rfl (by (first | exact RdN.rowAll (by (repeat (first | exact Pick.head | apply Pick.tail | apply Pick.app))) | exact RdN.own (by (repeat (first | exact Pick.head | apply Pick.tail | apply Pick.app))))) (by (first | rfl | assumption | (simp; done) | omega)))) (by (first | exact RV.tmp rfl | exact RV.cell1 hT rfl rfl rfl (by (exact Rd1.row (by (repeat (first | exact Pick.head | apply Pick.tail | apply Pick.app))) (by rfl))) | exact RV.cellN hT rfl rfl rfl (by (first | exact RdN.rowAll (by (repeat (first | exact Pick.head | apply Pick.tail | apply Pick.app))) | exact RdN.own (by (repeat (first | exact Pick.head | apply Pick.tail | apply Pick.app))))) (by (first | rfl | assumption | (simp; done) | omega)))) ?_
         exact ⟨by rw [← hres], fun w h => by rw [← hres]; exact h⟩
       case' hf =>
        intro h
        try (first | (exfalso; omega) | (cases h; done) | (exfalso; simp at h; done) | subst h)
        all_goals
         rw [if_neg (by omega)] at hres
         have hne : ¬ x = y := by
          rintro rfl
          rcases st1 with q | q
          · omega
          · rcases st2 with q2 | q2
            · omega
            · rw [q] at q2; cases q2
         refine J.skip ?_
       all_goals refine JE.then_normal ?_
       all_goals
        refine J.seq ?_
        refine J.draw _ _ [(0, .q), (1, .q), (2, .q), (3, .q), (4, .q), (5, .q), (6, .q), (8, .q), (9, .q), (10, .q), (7, .e), (11, .e), (12, .q), (13, .l), (14, .q), (15, .l)] mixed (by kernel_rfl) (Split.cons (Pick.head) (Split.nil)) ?_
        refine JM.quiet rfl rfl rfl rfl (fun m => y_move rfl) (JM.quiet rfl rfl rfl rfl (fun m => y_move rfl) (JM.quiet rfl rfl rfl rfl (fun m => y_move rfl) (JM.quiet rfl rfl rfl rfl (fun m => y_move rfl) (JM.quiet rfl rfl rfl rfl (fun m => y_move rfl) (JM.quiet rfl rfl rfl rfl (fun m => y_move rfl) ?_)))))
        refine JM.quiet rfl rfl rfl rfl (fun m => y_indexAddr_slice hT rfl rfl rfl rfl rfl (by (first | omega | exact Nat.le_of_ble_eq_true rfl | decide | (simp; omega))) (by (first | omega | exact Nat.le_of_ble_eq_true rfl | decide | (simp; omega)))) ?_
        refine JM.quiet rfl rfl rfl rfl (fun m => y_move rfl) (JM.quiet rfl rfl rfl rfl (fun m => y_move rfl) ?_)
        refine JM.quiet rfl rfl rfl rfl (fun m => y_indexAddr_slice hT rfl rfl rfl rfl rfl (by (first | omega | exact Nat.le_of_ble_eq_true rfl | decide | (simp; omega))) (by (first | omega | exact Nat.le_of_ble_eq_true rfl | decide | (simp; omega)))) ?_
        refine JM.early rfl rfl rfl rfl (fun fr => y_load1 hT rfl rfl rfl (Rd1.arr (i := (y)) (by (repeat (first | exact Pick.head | apply Pick.tail | apply Pick.app))) (by (first | assumption | omega | (simp only [Array.size_setIfInBounds]; omega))) (by exact arr_off rfl (by omega)))) ?_
        refine JM.early rfl rfl rfl rfl (fun fr => y_load1 hT rfl rfl rfl (Rd1.arr (i := (x)) (by (repeat (first | exact Pick.head | apply Pick.tail | apply Pick.app))) (by (first | assumption | omega | (simp only [Array.size_setIfInBounds]; omega))) (by exact arr_off rfl (by omega)))) ?_
        refine JM.quiet rfl rfl rfl rfl (fun m => y_indexAddr_slice hT rfl rfl rfl rfl rfl (by (first | omega | exact Nat.le_of_ble_eq_true rfl | decide | (simp; omega))) (by (first | omega | exact Nat.le_of_ble_eq_true rfl | decide | (simp; omega)))) ?_
        refine JM.loud rfl rfl (fun fr => l_storeArr (j := (x)) (u := d0[y]!) hT rfl rfl rfl rfl (fun _ => rfl) (by (repeat (first | exact Pick.head | apply Pick.tail | apply Pick.app))) (by (first | assumption | omega | (simp only [Array.size_setIfInBounds]; omega))) (by exact arr_off rfl (by omega)) (⟨[_], (by (repeat (first | exact Split.nil | exact Split.all | refine Split.cons Pick.head ?_))), ?_⟩))
        refine JM.quiet rfl rfl rfl rfl (fun m => y_indexAddr_slice hT rfl rfl rfl rfl rfl (by (first | omega | exact Nat.le_of_ble_eq_true rfl | decide | (simp; omega))) (by (first | omega | exact Nat.le_of_ble_eq_true rfl | decide | (simp; omega)))) ?_
        refine JM.loud rfl rfl (fun fr => l_storeArr (j := (y)) (u := d0[x]!) hT rfl rfl rfl rfl (fun _ => rfl) (by (repeat (first | exact Pick.head | apply Pick.tail | apply Pick.app))) (by (first | assumption | omega | (simp only [Array.size_setIfInBounds]; omega))) (by exact arr_off rfl (by omega)) (⟨[_], (by (repeat (first | exact Split.nil | exact Split.all | refine Split.cons Pick.head ?_))), ?_⟩))
        refine JM.nil (JE.then_normal (J.seq (J.region (JL.step (y_move rfl) rfl rfl rfl ?_))))
        refine JL.step (y_add rfl rfl (by (first | exact wrap_i64 (by omega) (by omega) | rfl))) rfl rfl rfl ?_
        refine JL.step (y_assign rfl) rfl rfl rfl ?_
        refine JL.nil (JE.then_normal (J.seq (J.region (JL.step (y_move rfl) rfl rfl rfl ?_))))
        refine JL.step (y_sub rfl rfl (by (first | exact wrap_i64 (by omega) (by omega) | rfl))) rfl rfl rfl ?_
        refine JL.step (y_assign rfl) rfl rfl rfl ?_
        refine JL.nil (JE.then_normal (J.seq (J.block ?_)))
        refine J.loop (α := Nat × Nat × Array Int) (fun s => a < s.1 ∧ s.1 ≤ b ∧ s.2.1 < b ∧ s.1 ≤ s.2.1 + 1 ∧ s.2.2.size = n ∧ Sort.partLoop Sort.ltInt a s.1 s.2.1 s.2.2 = Sort.partLoop Sort.ltInt a (x + 1) (y - 1) (Sort.swp d0 x y)) (fun s => [(0, .slice (some ⟨g, 0, none⟩) n c), (1, .int .i64 a), (10, .int .i64 s.1), (11, .int .i64 s.2.1)]) (fun s => arI g s.2.2 sp :: r) (fun s => s.2.1 + 1 - s.1) (x + 1, y - 1, Sort.swp d0 x y) ⟨by dsimp only; omega, by dsimp only; omega, by dsimp only; omega, by dsimp only; omega, by dsimp only; rw [swp_size]; exact hs0, rfl⟩ ⟨rfl, rfl, (congrArg (fun z => some (Value.int .i64 z)) (by first | omega | (dsimp only; omega))), (congrArg (fun z => some (Value.int .i64 z)) (by first | omega | (dsimp only; omega))), trivial⟩ (fun w h => h) ?_
        rintro ⟨i, j, d1⟩ ⟨hi1, hi2, hj1, hij, hs1, he1⟩
        try dsimp only at hi1 hi2 hj1 hij hs1 he1 ⊢
        rw [Sort.partLoop_eq] at he1
        refine J.block (J.seq (J.block ?_))
        refine J.loop (α := Nat) (fun u => i ≤ u ∧ u ≤ j + 1 ∧ Sort.scanUp (fun x => Sort.ltInt x d1[a]!) d1 j u = Sort.scanUp (fun x => Sort.ltInt x d1[a]!) d1 j i) (fun u => [(0, .slice (some ⟨g, 0, none⟩) n c), (1, .int .i64 a), (10, .int .i64 u), (11, .int .i64 j)]) (fun u => arI g d1 sp :: r) (fun u => j + 1 - u) i ⟨Nat.le_refl _, hij, rfl⟩ ⟨rfl, rfl, rfl, rfl, trivial⟩ (fun w h => h) ?_
        rintro u ⟨hu1, hu2, hu3⟩
        try dsimp only at hu1 hu2 hu3 ⊢
        refine J.seq (J.seq ?_)
        by_cases hg : u ≤ j
        all_goals
         refine J.draw _ _ [(0, .q), (1, .q), (2, .q), (3, .q), (4, .q), (5, .q), (6, .q), (7, .q), (8, .q), (9, .q), (10, .q), (11, .q), (12, .q), (13, .q)] mixed (by kernel_rfl) (Split.nil) ?_
         refine JM.quiet rfl rfl rfl rfl (fun m => y_move rfl) (JM.quiet rfl rfl rfl rfl (fun m => y_move rfl) ?_)
         first | refine JM.quiet rfl rfl rfl rfl (fun m => y_leqB rfl rfl (decide_eq_true (by omega))) ?_ | refine JM.quiet rfl rfl rfl rfl (fun m => y_leqB rfl rfl (decide_eq_false (by omega))) ?_
         refine JM.quiet rfl rfl rfl rfl (fun m => y_move rfl) ?_
         all_goals (first | refine JM.gskip rfl rfl rfl rfl rfl rfl rfl ?_ | refine JM.gskipU rfl rfl rfl rfl rfl rfl ?_ | refine JM.gquiet rfl rfl rfl rfl rfl rfl (fun m => y_move rfl) ?_)
         all_goals (first | refine JM.gskip rfl rfl rfl rfl rfl rfl rfl ?_ | refine JM.gskipU rfl rfl rfl rfl rfl rfl ?_ | refine JM.gquiet rfl rfl rfl rfl rfl rfl (fun m => y_move rfl) ?_)
         all_goals (first | refine JM.gskip rfl rfl rfl rfl rfl rfl rfl ?_ | refine JM.gskipU rfl rfl rfl rfl rfl rfl ?_ | refine JM.gquiet rfl rfl rfl rfl rfl rfl (fun m => y_indexAddr_slice hT rfl rfl rfl rfl rfl (by (first | omega | exact Nat.le_of_ble_eq_true rfl | decide | (simp; omega))) (by (first | omega | exact Nat.le_of_ble_eq_true rfl | decide | (simp; omega)))) ?_)
         all_goals (first | refine JM.gskip rfl rfl rfl rfl rfl rfl rfl ?_ | refine JM.gskipU rfl rfl rfl rfl rfl rfl ?_ | refine JM.gquiet rfl rfl rfl rfl rfl rfl (fun m => y_load1 hT rfl rfl rfl (Rd1.arr (i := (u)) (Pick.app m (by (repeat (first | exact Pick.head | apply Pick.tail | apply Pick.app)))) (by (first | assumption | omega | (simp only [Array.size_setIfInBounds]; omega))) (by exact arr_off rfl (by omega)))) ?_)
         all_goals (first | refine JM.gskip rfl rfl rfl rfl rfl rfl rfl ?_ | refine JM.gskipU rfl rfl rfl rfl rfl rfl ?_ | refine JM.gquiet rfl rfl rfl rfl rfl rfl (fun m => y_move rfl) ?_)
         all_goals (first | refine JM.gskip rfl rfl rfl rfl rfl rfl rfl ?_ | refine JM.gskipU rfl rfl rfl rfl rfl rfl ?_ | refine JM.gquiet rfl rfl rfl rfl rfl rfl (fun m => y_move rfl) ?_)
         all_goals (first | refine JM.gskip rfl rfl rfl rfl rfl rfl rfl ?_ | refine JM.gskipU rfl rfl rfl rfl rfl rfl ?_ | refine JM.gquiet rfl rfl rfl rfl rfl rfl (fun m => y_indexAddr_slice hT rfl rfl rfl rfl rfl (by (first | omega | exact Nat.le_of_ble_eq_true rfl | decide | (simp; omega))) (by (first | omega | exact Nat.le_of_ble_eq_true rfl | decide | (simp; omega)))) ?_)
         all_goals (first | refine JM.gskip rfl rfl rfl rfl rfl rfl rfl ?_ | refine JM.gskipU rfl rfl rfl rfl rfl rfl ?_ | refine JM.gquiet rfl rfl rfl rfl rfl rfl (fun m => y_load1 hT rfl rfl rfl (Rd1.arr (i := (a)) (Pick.app m (by (repeat (first | exact Pick.head | apply Pick.tail | apply Pick.app)))) (by (first | assumption | omega | (simp only [Array.size_setIfInBounds]; omega))) (by exact arr_off rfl (by omega)))) ?_)
         all_goals (first | refine JM.gskip rfl rfl rfl rfl rfl rfl rfl ?_ | refine JM.gskipU rfl rfl rfl rfl rfl rfl ?_ | refine JM.gquiet rfl rfl rfl rfl rfl rfl (fun m => y_callF e112 rfl (lessI E _ _ _)) ?_)
         all_goals refine JM.quiet rfl rfl rfl rfl (fun m => y_pick rfl rfl rfl) ?_
         all_goals refine JM.nil ?_
        all_goals refine JE.then_normal ?_
        all_goals
         first | apply J.cond_dec rfl | apply J.cond rfl
         case' ht =>
          intro h
          try (first | (exfalso; omega) | (cases h; done) | (exfalso; simp at h; done) | subst h)
          all_goals
           rw [scanUp_go (p := fun x => Sort.ltInt x d1[a]!) (by omega) h] at hu3
           refine J.skip ?_
         case' hf =>
          intro h
          try (first | (exfalso; omega) | (cases h; done) | (exfalso; simp at h; done) | subst h)
          all_goals
           have st3 : j < u ∨ Sort.ltInt d1[u]! d1[a]! = false := by first | exact .inl (by omega) | exact .inr h
           rw [scanUp_stop (p := fun x => Sort.ltInt x d1[a]!) (by first | exact .inl (by omega) | exact .inr h)] at hu3
           rw [← hu3] at he1
           refine J.exit (JE.then_exit (JE.then_exit (JE.block_exit (JE.then_normal (J.seq (J.block ?_))))))
           refine J.loop (α := Nat) (fun w => w ≤ j ∧ u ≤ w + 1 ∧ Sort.scanDown (fun x => !Sort.ltInt x d1[a]!) d1 u w = Sort.scanDown (fun x => !Sort.ltInt x d1[a]!) d1 u j) (fun w => [(0, .slice (some ⟨g, 0, none⟩) n c), (1, .int .i64 a), (10, .int .i64 u), (11, .int .i64 w)]) (fun w => arI g d1 sp :: r) (fun w => w) j ⟨Nat.le_refl _, hu2, rfl⟩ ⟨rfl, rfl, rfl, rfl, trivial⟩ (fun w h => h) ?_
           rintro v ⟨hv1, hv2, hv3⟩
           try dsimp only at hv1 hv2 hv3 ⊢
           refine J.seq (J.seq ?_)
           by_cases hg : u ≤ v
           all_goals
            refine J.draw _ _ [(0, .q), (1, .q), (2, .q), (3, .q), (4, .q), (5, .q), (6, .q), (7, .q), (8, .q), (9, .q), (10, .q), (11, .q), (12, .q), (13, .q), (14, .q)] mixed (by kernel_rfl) (Split.nil) ?_
            refine JM.quiet rfl rfl rfl rfl (fun m => y_move rfl) (JM.quiet rfl rfl rfl rfl (fun m => y_move rfl) ?_)
            first | refine JM.quiet rfl rfl rfl rfl (fun m => y_leqB rfl rfl (decide_eq_true (by omega))) ?_ | refine JM.quiet rfl rfl rfl rfl (fun m => y_leqB rfl rfl (decide_eq_false (by omega))) ?_
            refine JM.quiet rfl rfl rfl rfl (fun m => y_move rfl) ?_
            all_goals (first | refine JM.gskip rfl rfl rfl rfl rfl rfl rfl ?_ | refine JM.gskipU rfl rfl rfl rfl rfl rfl ?_ | refine JM.gquiet rfl rfl rfl rfl rfl rfl (fun m => y_move rfl) ?_)
            all_goals (first | refine JM.gskip rfl rfl rfl rfl rfl rfl rfl ?_ | refine JM.gskipU rfl rfl rfl rfl rfl rfl ?_ | refine JM.gquiet rfl rfl rfl rfl rfl rfl (fun m => y_move rfl) ?_)
            all_goals (first | refine JM.gskip rfl rfl rfl rfl rfl rfl rfl ?_ | refine JM.gskipU rfl rfl rfl rfl rfl rfl ?_ | refine JM.gquiet rfl rfl rfl rfl rfl rfl (fun m => y_indexAddr_slice hT rfl rfl rfl rfl rfl (by (first | omega | exact Nat.le_of_ble_eq_true rfl | decide | (simp; omega))) (by (first | omega | exact Nat.le_of_ble_eq_true rfl | decide | (simp; omega)))) ?_)
            all_goals (first | refine JM.gskip rfl rfl rfl rfl rfl rfl rfl ?_ | refine JM.gskipU rfl rfl rfl rfl rfl rfl ?_ | refine JM.gquiet rfl rfl rfl rfl rfl rfl (fun m => y_load1 hT rfl rfl rfl (Rd1.arr (i := (v)) (Pick.app m (by (repeat (first | exact Pick.head | apply Pick.tail | apply Pick.app)))) (by (first | assumption | omega | (simp only [Array.size_setIfInBounds]; omega))) (by exact arr_off rfl (by omega)))) ?_)
            all_goals (first | refine JM.gskip rfl rfl rfl rfl rfl rfl rfl ?_ | refine JM.gskipU rfl rfl rfl rfl rfl rfl ?_ | refine JM.gquiet rfl rfl rfl rfl rfl rfl (fun m => y_move rfl) ?_)
            all_goals (first | refine JM.gskip rfl rfl rfl rfl rfl rfl rfl ?_ | refine JM.gskipU rfl rfl rfl rfl rfl rfl ?_ | refine JM.gquiet rfl rfl rfl rfl rfl rfl (fun m => y_move rfl) ?_)
            all_goals (first | refine JM.gskip rfl rfl rfl rfl rfl rfl rfl ?_ | refine JM.gskipU rfl rfl rfl rfl rfl rfl ?_ | refine JM.gquiet rfl rfl rfl rfl rfl rfl (fun m => y_indexAddr_slice hT rfl rfl rfl rfl rfl (by (first | omega | exact Nat.le_of_ble_eq_true rfl | decide | (simp; omega))) (by (first | omega | exact Nat.le_of_ble_eq_true rfl | decide | (simp; omega)))) ?_)
            all_goals (first | refine JM.gskip rfl rfl rfl rfl rfl rfl rfl ?_ | refine JM.gskipU rfl rfl rfl rfl rfl rfl ?_ | refine JM.gquiet rfl rfl rfl rfl rfl rfl (fun m => y_load1 hT rfl rfl rfl (Rd1.arr (i := (a)) (Pick.app m (by (repeat (first | exact Pick.head | apply Pick.tail | apply Pick.app)))) (by (first | assumption | omega | (simp only [Array.size_setIfInBounds]; omega))) (by exact arr_off rfl (by omega)))) ?_)
            all_goals (first | refine JM.gskip rfl rfl rfl rfl rfl rfl rfl ?_ | refine JM.gskipU rfl rfl rfl rfl rfl rfl ?_ | refine JM.gquiet rfl rfl rfl rfl rfl rfl (fun m => y_callF e112 rfl (lessI E _ _ _)) ?_)
            all_goals (first | refine JM.gskip rfl rfl rfl rfl rfl rfl rfl ?_ | refine JM.gskipU rfl rfl rfl rfl rfl rfl ?_ | refine JM.gquiet rfl rfl rfl rfl rfl rfl (fun m => y_not rfl) ?_)
            all_goals refine JM.quiet rfl rfl rfl rfl (fun m => y_pick rfl rfl rfl) ?_
            all_goals refine JM.nil ?_
           all_goals refine JE.then_normal ?_
           all_goals
            first | apply J.cond_dec rfl | apply J.cond rfl
            case' ht =>
             intro h
             try (first | (exfalso; omega) | (cases h; done) | (exfalso; simp at h; done) | subst h)
             all_goals
              rw [scanDown_go (p := fun x => !Sort.ltInt x d1[a]!) (by omega) (by omega) h] at hv3
              refine J.skip ?_
            case' hf =>
             intro h
             try (first | (exfalso; omega) | (cases h; done) | (exfalso; simp at h; done) | subst h)
             all_goals
              have st4 : v < u ∨ Sort.ltInt d1[v]! d1[a]! = true := by first | exact .inl (by omega) | exact .inr (by simpa using h)
              rw [scanDown_stop (p := fun x => !Sort.ltInt x d1[a]!) (by first | exact .inl (by omega) | exact .inr h)] at hv3
              rw [← hv3] at he1
              refine J.exit (JE.then_exit (JE.then_exit (JE.block_exit (JE.then_normal (J.seq (J.seq (J.region (JL.step (y_move rfl) rfl rfl rfl (JL.step (y_move rfl) rfl rfl rfl (JL.step (y_gtr rfl rfl) rfl rfl rfl ?_))))))))))
              refine JL.nil (JE.then_normal ?_)
              first | apply J.cond_dec rfl | apply J.cond rfl
              case' ht =>
               intro h
               try (first | (exfalso; omega) | (cases h; done) | (exfalso; simp at h; done) | subst h)
               all_goals
                rw [if_pos (by omega)] at he1
                rw [← he1] at hres
                refine J.exit (JE.then_exit ?_)
                refine JE.block_past rfl ?_
                refine JE.then_exit (JE.block_exit (JE.then_normal (J.seq ?_)))
                refine J.draw _ _ [(0, .q), (1, .q), (2, .q), (3, .q), (4, .q), (5, .q), (6, .q), (8, .q), (9, .q), (10, .q), (7, .e), (11, .e), (12, .q), (13, .l), (14, .q), (15, .l)] mixed (by kernel_rfl) (Split.cons (Pick.head) (Split.nil)) ?_
                refine JM.quiet rfl rfl rfl rfl (fun m => y_move rfl) (JM.quiet rfl rfl rfl rfl (fun m => y_move rfl) (JM.quiet rfl rfl rfl rfl (fun m => y_move rfl) (JM.quiet rfl rfl rfl rfl (fun m => y_move rfl) (JM.quiet rfl rfl rfl rfl (fun m => y_move rfl) (JM.quiet rfl rfl rfl rfl (fun m => y_move rfl) ?_)))))
                refine JM.quiet rfl rfl rfl rfl (fun m => y_indexAddr_slice hT rfl rfl rfl rfl rfl (by (first | omega | exact Nat.le_of_ble_eq_true rfl | decide | (simp; omega))) (by (first | omega | exact Nat.le_of_ble_eq_true rfl | decide | (simp; omega)))) ?_
                refine JM.quiet rfl rfl rfl rfl (fun m => y_move rfl) (JM.quiet rfl rfl rfl rfl (fun m => y_move rfl) ?_)
                refine JM.quiet rfl rfl rfl rfl (fun m => y_indexAddr_slice hT rfl rfl rfl rfl rfl (by (first | omega | exact Nat.le_of_ble_eq_true rfl | decide | (simp; omega))) (by (first | omega | exact Nat.le_of_ble_eq_true rfl | decide | (simp; omega)))) ?_
                refine JM.early rfl rfl rfl rfl (fun fr => y_load1 hT rfl rfl rfl (Rd1.arr (i := (a)) (by (repeat (first | exact Pick.head | apply Pick.tail | apply Pick.app))) (by (first | assumption | omega | (simp only [Array.size_setIfInBounds]; omega))) (by exact arr_off rfl (by omega)))) ?_
                refine JM.early rfl rfl rfl rfl (fun fr => y_load1 hT rfl rfl rfl (Rd1.arr (i := (v)) (by (repeat (first | exact Pick.head | apply Pick.tail | apply Pick.app))) (by (first | assumption | omega | (simp only [Array.size_setIfInBounds]; omega))) (by exact arr_off rfl (by omega)))) ?_
                refine JM.quiet rfl rfl rfl rfl (fun m => y_indexAddr_slice hT rfl rfl rfl rfl rfl (by (first | omega | exact Nat.le_of_ble_eq_true rfl | decide | (simp; omega))) (by (first | omega | exact Nat.le_of_ble_eq_true rfl | decide | (simp; omega)))) ?_
                refine JM.loud rfl rfl (fun fr => l_storeArr (j := (v)) (u := d1[a]!) hT rfl rfl rfl rfl (fun _ => rfl) (by (repeat (first | exact Pick.head | apply Pick.tail | apply Pick.app))) (by (first | assumption | omega | (simp only [Array.size_setIfInBounds]; omega))) (by exact arr_off rfl (by omega)) (⟨[_], (by (repeat (first | exact Split.nil | exact Split.all | refine Split.cons Pick.head ?_))), ?_⟩))
                refine JM.quiet rfl rfl rfl rfl (fun m => y_indexAddr_slice hT rfl rfl rfl rfl rfl (by (first | omega | exact Nat.le_of_ble_eq_true rfl | decide | (simp; omega))) (by (first | omega | exact Nat.le_of_ble_eq_true rfl | decide | (simp; omega)))) ?_
                refine JM.loud rfl rfl (fun fr => l_storeArr (j := (a)) (u := d1[v]!) hT rfl rfl rfl rfl (fun _ => rfl) (by (repeat (first | exact Pick.head | apply Pick.tail | apply Pick.app))) (by (first | assumption | omega | (simp only [Array.size_setIfInBounds]; omega))) (by exact arr_off rfl (by omega)) (⟨[_], (by (repeat (first | exact Split.nil | exact Split.all | refine Split.cons Pick.head ?_))), ?_⟩))
                refine JM.nil (JE.then_normal (J.seq (J.region (JL.step (y_move rfl) rfl rfl rfl (JL.step (y_assign rfl) rfl rfl rfl (JL.step (y_assign rfl) rfl rfl rfl ?_))))))
                refine JL.nil (JE.then_normal (J.ret ?_))
                refine JE.ret2 (.inl rfl) rfl rfl (by (first | exact RV.tmp rfl | exact RV.cell1 hT rfl rfl rfl (by (exact Rd1.row (by (repeat (first | exact Pick.head | apply Pick.tail | apply Pick.app))) (by rfl))) | exact RV.cellN hT rfl rfl rfl (by (first | exact RdN.rowAll (by (repeat (first | exact Pick.head | apply Pick.tail | apply Pick.app))) | exact RdN.own (by (repeat (first | exact Pick.head | apply Pick.tail | apply Pick.app))))) (by (first | rfl | assumption | (simp; done) | omega)))) (by (first | exact RV.tmp rfl | exact RV.cell1 hT rfl rfl rfl (by (exact Rd1.row (by (repeat (first | exact Pick.head | apply Pick.tail | apply Pick.app))) (by rfl))) | exact RV.cellN hT rfl rfl rfl (by (first | exact RdN.rowAll (by (repeat (first | exact Pick.head | apply Pick.tail | apply Pick.app))) | exact RdN.own (by (repeat (first | exact Pick.head | apply Pick.tail | apply Pick.app))))) (by (first | rfl | assumption | (simp; done) | omega)))) ?_
                exact ⟨by rw [← hres], fun w h => by rw [← hres]; exact h⟩
              case' hf =>
               intro h
               try (first | (exfalso; omega) | (cases h; done) | (exfalso; simp at h; done) | subst h)
               all_goals
                rw [if_neg (by omega)] at he1
                have hne : ¬ u = v := by
                 rintro rfl
                 rcases st3 with q | q
                 · omega
                 · rcases st4 with q2 | q2
                   · omega
                   · rw [q] at q2; cases q2
                refine J.skip ?_
              all_goals refine JE.then_normal ?_
              all_goals
               refine J.seq ?_
               refine J.draw _ _ [(0, .q), (1, .q), (2, .q), (3, .q), (4, .q), (5, .q), (6, .q), (8, .q), (9, .q), (10, .q), (7, .e), (11, .e), (12, .q), (13, .l), (14, .q), (15, .l)] mixed (by kernel_rfl) (Split.cons (Pick.head) (Split.nil)) ?_
               refine JM.quiet rfl rfl rfl rfl (fun m => y_move rfl) (JM.quiet rfl rfl rfl rfl (fun m => y_move rfl) (JM.quiet rfl rfl rfl rfl (fun m => y_move rfl) (JM.quiet rfl rfl rfl rfl (fun m => y_move rfl) (JM.quiet rfl rfl rfl rfl (fun m => y_move rfl) (JM.quiet rfl rfl rfl rfl (fun m => y_move rfl) ?_)))))
               refine JM.quiet rfl rfl rfl rfl (fun m => y_indexAddr_slice hT rfl rfl rfl rfl rfl (by (first | omega | exact Nat.le_of_ble_eq_true rfl | decide | (simp; omega))) (by (first | omega | exact Nat.le_of_ble_eq_true rfl | decide | (simp; omega)))) ?_
               refine JM.quiet rfl rfl rfl rfl (fun m => y_move rfl) (JM.quiet rfl rfl rfl rfl (fun m => y_move rfl) ?_)
               refine JM.quiet rfl rfl rfl rfl (fun m => y_indexAddr_slice hT rfl rfl rfl rfl rfl (by (first | omega | exact Nat.le_of_ble_eq_true rfl | decide | (simp; omega))) (by (first | omega | exact Nat.le_of_ble_eq_true rfl | decide | (simp; omega)))) ?_
               refine JM.early rfl rfl rfl rfl (fun fr => y_load1 hT rfl rfl rfl (Rd1.arr (i := (v)) (by (repeat (first | exact Pick.head | apply Pick.tail | apply Pick.app))) (by (first | assumption | omega | (simp only [Array.size_setIfInBounds]; omega))) (by exact arr_off rfl (by omega)))) ?_
               refine JM.early rfl rfl rfl rfl (fun fr => y_load1 hT rfl rfl rfl (Rd1.arr (i := (u)) (by (repeat (first | exact Pick.head | apply Pick.tail | apply Pick.app))) (by (first | assumption | omega | (simp only [Array.size_setIfInBounds]; omega))) (by exact arr_off rfl (by omega)))) ?_
               refine JM.quiet rfl rfl rfl rfl (fun m => y_indexAddr_slice hT rfl rfl rfl rfl rfl (by (first | omega | exact Nat.le_of_ble_eq_true rfl | decide | (simp; omega))) (by (first | omega | exact Nat.le_of_ble_eq_true rfl | decide | (simp; omega)))) ?_
               refine JM.loud rfl rfl (fun fr => l_storeArr (j := (u)) (u := d1[v]!) hT rfl rfl rfl rfl (fun _ => rfl) (by (repeat (first | exact Pick.head | apply Pick.tail | apply Pick.app))) (by (first | assumption | omega | (simp only [Array.size_setIfInBounds]; omega))) (by exact arr_off rfl (by omega)) (⟨[_], (by (repeat (first | exact Split.nil | exact Split.all | refine Split.cons Pick.head ?_))), ?_⟩))
               refine JM.quiet rfl rfl rfl rfl (fun m => y_indexAddr_slice hT rfl rfl rfl rfl rfl (by (first | omega | exact Nat.le_of_ble_eq_true rfl | decide | (simp; omega))) (by (first | omega | exact Nat.le_of_ble_eq_true rfl | decide | (simp; omega)))) ?_
               refine JM.loud rfl rfl (fun fr => l_storeArr (j := (v)) (u := d1[u]!) hT rfl rfl rfl rfl (fun _ => rfl) (by (repeat (first | exact Pick.head | apply Pick.tail | apply Pick.app))) (by (first | assumption | omega | (simp only [Array.size_setIfInBounds]; omega))) (by exact arr_off rfl (by omega)) (⟨[_], (by (repeat (first | exact Split.nil | exact Split.all | refine Split.cons Pick.head ?_))), ?_⟩))
               refine JM.nil (JE.then_normal (J.seq (J.region (JL.step (y_move rfl) rfl rfl rfl ?_))))
               refine JL.step (y_add rfl rfl (by (first | exact wrap_i64 (by omega) (by omega) | rfl))) rfl rfl rfl ?_
               refine JL.step (y_assign rfl) rfl rfl rfl ?_
               refine JL.nil (JE.then_normal (J.region (JL.step (y_move rfl) rfl rfl rfl ?_)))
               refine JL.step (y_sub rfl rfl (by (first | exact wrap_i64 (by omega) (by omega) | rfl))) rfl rfl rfl ?_
               refine JL.step (y_assign rfl) rfl rfl rfl ?_
               refine JL.nil ?_
              all_goals
               refine JE.block_normal ?_
               exact JE.round (s := (i, j, d1)) (u + 1, v - 1, Sort.swp d1 u v) ⟨by dsimp only; omega, by dsimp only; omega, by dsimp only; omega, by dsimp only; omega, by dsimp only; rw [swp_size]; exact hs1, he1⟩ ⟨rfl, rfl, (congrArg (fun z => some (Value.int .i64 z)) (by first | omega | (dsimp only; omega))), (congrArg (fun z => some (Value.int .i64 z)) (by first | omega | (dsimp only; omega))), trivial⟩ (fun w h => h) (by dsimp only; omega)
           all_goals refine JE.then_normal ?_
           all_goals
            refine J.block (J.region (JL.step (y_move rfl) rfl rfl rfl ?_))
            refine JL.step (y_sub rfl rfl (by (first | exact wrap_i64 (by omega) (by omega) | rfl))) rfl rfl rfl ?_
            refine JL.step (y_assign rfl) rfl rfl rfl ?_
            refine JL.nil (JE.block_normal ?_)
           all_goals
            exact JE.round (s := v) (v - 1) ⟨by omega, by omega, hv3⟩ ⟨rfl, rfl, rfl, (congrArg (fun z => some (Value.int .i64 z)) (by first | omega | (dsimp only; omega))), trivial⟩ (fun w h => h) (by omega)
        all_goals refine JE.then_normal ?_
        all_goals
         refine J.block (J.region (JL.step (y_move rfl) rfl rfl rfl ?_))
         refine JL.step (y_add rfl rfl (by (first | exact wrap_i64 (by omega) (by omega) | rfl))) rfl rfl rfl ?_
         refine JL.step (y_assign rfl) rfl rfl rfl ?_
         refine JL.nil (JE.block_normal ?_)
        all_goals
         exact JE.round (s := u) (u + 1) ⟨by omega, by omega, hu3⟩ ⟨rfl, rfl, (congrArg (fun z => some (Value.int .i64 z)) (by first | omega | (dsimp only; omega))), rfl, trivial⟩ (fun w h => h) (by omega)
    all_goals refine JE.then_normal ?_
    all_goals
     refine J.block (J.region (JL.step (y_move rfl) rfl rfl rfl ?_))
     refine JL.step (y_sub rfl rfl (by (first | exact wrap_i64 (by omega) (by omega) | rfl))) rfl rfl rfl ?_
     refine JL.step (y_assign rfl) rfl rfl rfl ?_
     refine JL.nil (JE.block_normal ?_)
    all_goals
     exact JE.round (s := y) (y - 1) ⟨by omega, by omega, hy3⟩ ⟨rfl, rfl, rfl, (congrArg (fun z => some (Value.int .i64 z)) (by first | omega | (dsimp only; omega))), trivial⟩ (fun w h => h) (by omega)
 all_goals refine JE.then_normal ?_
 all_goals
  refine J.block (J.region (JL.step (y_move rfl) rfl rfl rfl ?_))
  refine JL.step (y_add rfl rfl (by (first | exact wrap_i64 (by omega) (by omega) | rfl))) rfl rfl rfl ?_
  refine JL.step (y_assign rfl) rfl rfl rfl ?_
  refine JL.nil (JE.block_normal ?_)
 all_goals
  exact JE.round (s := x) (x + 1) ⟨by omega, by omega, hx3⟩ ⟨rfl, rfl, (congrArg (fun z => some (Value.int .i64 z)) (by first | omega | (dsimp only; omega))), rfl, trivial⟩ (fun w h => h) (by omega)
end
end
end Go.Proofs.YtfohdnclpbipeaaDoor
