import Derived.Test.YtccagffapohkhaaGreatDoorJoin4
namespace Go.Proofs.YtccagffapohkhaaGreatDoor
section
open Go Go.SL
section
attribute [local irreducible] J JL JE JM LS Y Fc RV Code.wp wpList Code.wpIn wpListIn
attribute [local irreducible] Yc strOf
variable (E : World)
theorem rodd_spec (xs : List Int) (l : List HProp) (hB : Bys xs) (hl : xs.length ≤ 1000000) : Fc prog E 45 [.string (strOf xs)].toArray l (fun v l' => v = .int .i64 (oddI xs) ∧ l' = l) := by
 refine Fc.eqs ?_
 refine Fc.of_body (c := ?codeC) Tryz.func45 ?hb Tryz.ntmps45 ?hl ?_
 case hb => exact rfl
 case hl => exact rfl
 refine J.seq (J.region (JL.step (y_assign rfl) rfl rfl rfl ?_))
 refine JL.nil (JE.then_normal (J.seq (J.seq (J.region (JL.step (y_assign rfl) rfl rfl rfl ?_)))))
 refine JL.nil (JE.then_normal (J.block ?_))
 refine J.loop (α := Nat) (fun i => i ≤ xs.length ∧ ∀ (j : Nat) y, j < i → xs[j]? = some y → oddB y = false) (fun i => [(0, .string (strOf xs)), (3, .int .i64 i)]) (fun _ => l) (fun i => xs.length - i) 0 ⟨Nat.zero_le _, by omega⟩ ⟨rfl, rfl, trivial⟩ (fun w h => h) ?_
 rintro i ⟨hi, hb⟩
 try dsimp only
 refine J.seq (J.seq (J.region (JL.step (y_move rfl) rfl rfl rfl (JL.step (y_move rfl) rfl rfl rfl ?_))))
 refine JL.step (y_lenS hT rfl rfl rfl) rfl rfl rfl ?_
 refine JL.step (y_lss rfl rfl) rfl rfl rfl ?_
 refine JL.nil (JE.then_normal ?_)
 first | apply J.cond_dec rfl | apply J.cond rfl
 case' ht =>
  intro h
  try (first | (exfalso; omega) | (cases h; done) | (exfalso; simp at h; done) | subst h)
  all_goals
   refine J.skip ?_
 case' hf =>
  intro h
  try (first | (exfalso; omega) | (cases h; done) | (exfalso; simp at h; done) | subst h)
  all_goals
   refine J.exit (JE.then_exit (JE.then_exit (JE.block_exit (JE.then_normal (J.seq (J.region (JL.step (y_assign rfl) rfl rfl rfl ?_)))))))
   refine JL.nil (JE.then_normal (J.ret ?_))
   refine JE.ret1 (.inl rfl) rfl rfl (by (first | exact RV.tmp rfl | exact RV.cell1 hT rfl rfl rfl (by (exact Rd1.row (by (repeat (first | exact Pick.head | apply Pick.tail | apply Pick.app))) (by rfl))) | exact RV.cellN hT rfl rfl rfl (by (first | exact RdN.rowAll (by (repeat (first | exact Pick.head | apply Pick.tail | apply Pick.app))) | exact RdN.own (by (repeat (first | exact Pick.head | apply Pick.tail | apply Pick.app))))) (by (first | rfl | assumption | (simp; done) | omega)))) ?_
   first
   | (have zz : i < xs.length := hlt
      have ho : oddB x = true := by unfold oddB; simp; omega
      rw [oddI_at hb hh ho]
      exact ⟨rfl, fun w h => h⟩)
   | (obtain rfl : i = xs.length := by omega
      rw [oddI_none hb]
      exact ⟨rfl, fun w h => h⟩)
 all_goals refine JE.then_normal ?_
 all_goals
  refine J.seq (J.block (J.seq ?_))
  have hlt : i < xs.length := by omega
  obtain ⟨x, hh⟩ : ∃ x, xs[i]? = some x := ⟨xs[i]'(by omega), List.getElem?_eq_getElem _⟩
  refine J.region (JL.step (y_move rfl) rfl rfl rfl (JL.step (y_move rfl) rfl rfl rfl ?_))
  refine JL.step (y_ixS hT hB rfl rfl rfl rfl rfl hh) rfl rfl rfl ?_
  refine JL.step (y_lss rfl rfl) rfl rfl rfl (JL.step (y_move rfl) rfl rfl rfl ?_)
  all_goals (first | (refine JL.gsplit_dec rfl rfl rfl (fun h => ?_) (fun h => ?_) <;> try (first | (exfalso; omega) | exact absurd rfl h)) | (refine JL.gsplit rfl rfl rfl (fun h => ?_) (fun h => ?_) <;> try (first | cases h | (exfalso; simp at h; done))) | skip)
  all_goals (first | refine JL.gskip rfl rfl rfl rfl rfl rfl ?_ | refine JL.gskipU rfl rfl rfl rfl rfl ?_ | refine JL.gstep rfl rfl rfl (y_move rfl) rfl rfl ?_)
  all_goals (first | refine JL.gskip rfl rfl rfl rfl rfl rfl ?_ | refine JL.gskipU rfl rfl rfl rfl rfl ?_ | refine JL.gstep rfl rfl rfl (y_move rfl) rfl rfl ?_)
  all_goals (first | refine JL.gskip rfl rfl rfl rfl rfl rfl ?_ | refine JL.gskipU rfl rfl rfl rfl rfl ?_ | refine JL.gstep rfl rfl rfl (y_ixS hT hB rfl rfl rfl rfl rfl hh) rfl rfl ?_)
  all_goals (first | refine JL.gskip rfl rfl rfl rfl rfl rfl ?_ | refine JL.gskipU rfl rfl rfl rfl rfl ?_ | refine JL.gstep rfl rfl rfl (y_gtr rfl rfl) rfl rfl ?_)
  all_goals (refine JL.step (y_pick rfl rfl rfl) rfl rfl rfl ?_)
  all_goals refine JL.nil (JE.then_normal ?_)
  all_goals
   first | apply J.cond_dec rfl | apply J.cond rfl
   case' ht =>
    intro h
    try (first | (exfalso; omega) | (cases h; done) | (exfalso; simp at h; done) | subst h)
    all_goals
     refine J.seq (J.region (JL.step (y_move rfl) rfl rfl rfl (JL.step (y_assign rfl) rfl rfl rfl ?_)))
     refine JL.nil (JE.then_normal (J.ret (JE.block_ret (JE.then_ret (JE.then_ret (JE.block_ret (JE.then_ret ?_)))))))
     refine JE.ret1 (.inl rfl) rfl rfl (by (first | exact RV.tmp rfl | exact RV.cell1 hT rfl rfl rfl (by (exact Rd1.row (by (repeat (first | exact Pick.head | apply Pick.tail | apply Pick.app))) (by rfl))) | exact RV.cellN hT rfl rfl rfl (by (first | exact RdN.rowAll (by (repeat (first | exact Pick.head | apply Pick.tail | apply Pick.app))) | exact RdN.own (by (repeat (first | exact Pick.head | apply Pick.tail | apply Pick.app))))) (by (first | rfl | assumption | (simp; done) | omega)))) ?_
     first
     | (have zz : i < xs.length := hlt
        have ho : oddB x = true := by unfold oddB; simp; omega
        rw [oddI_at hb hh ho]
        exact ⟨rfl, fun w h => h⟩)
     | (obtain rfl : i = xs.length := by omega
        rw [oddI_none hb]
        exact ⟨rfl, fun w h => h⟩)
   case' hf =>
    intro h
    try (first | (exfalso; omega) | (cases h; done) | (exfalso; simp at h; done) | subst h)
    all_goals
     refine J.skip ?_
  all_goals refine JE.block_normal (JE.then_normal ?_)
  all_goals
   refine J.region (JL.step (y_move rfl) rfl rfl rfl ?_)
   refine JL.step (y_add rfl rfl (by (first | exact wrap_i64 (by omega) (by omega) | rfl))) rfl rfl rfl ?_
   refine JL.step (y_assign rfl) rfl rfl rfl ?_
   refine JL.nil ?_
 all_goals
  have ho : oddB x = false := by unfold oddB; simp; omega
  exact JE.round (s := i) (i + 1) ⟨by omega, fun j y hj hy => by
   rcases Nat.lt_or_ge j i with q | q
   · exact hb j y q hy
   · obtain rfl : j = i := by omega
     rw [hh] at hy
     cases hy
     exact ho⟩ ⟨rfl, rfl, trivial⟩ (fun w h => h) (by omega)
theorem rtext_spec (xs : List Int) (l : List HProp) (hB : Bys xs) (hl : xs.length ≤ 1000000) : Fc prog E 28 [.string (strOf xs)].toArray l (fun v l' => v = .bool (textB xs) ∧ l' = l) := by
 refine Fc.eqs ?_
 refine Fc.of_body (c := ?codeC) Tryz.func28 ?hb Tryz.ntmps28 ?hl ?_
 case hb => exact rfl
 case hl => exact rfl
 refine J.seq (J.region (JL.step (y_assign rfl) rfl rfl rfl ?_))
 refine JL.nil (JE.then_normal (J.seq (J.region (JL.step (y_move rfl) rfl rfl rfl ?_))))
 refine JL.step (y_lenS hT rfl rfl rfl) rfl rfl rfl ?_
 refine JL.step (y_geq rfl rfl) rfl rfl rfl (JL.step (y_move rfl) rfl rfl rfl ?_)
 all_goals (first | (refine JL.gsplit_dec rfl rfl rfl (fun h => ?_) (fun h => ?_) <;> try (first | (exfalso; omega) | exact absurd rfl h)) | (refine JL.gsplit rfl rfl rfl (fun h => ?_) (fun h => ?_) <;> try (first | cases h | (exfalso; simp at h; done))) | skip)
 all_goals (first | refine JL.gskip rfl rfl rfl rfl rfl rfl ?_ | refine JL.gskipU rfl rfl rfl rfl rfl ?_ | refine JL.gstep rfl rfl rfl (y_move rfl) rfl rfl ?_)
 all_goals (first | refine JL.gskip rfl rfl rfl rfl rfl rfl ?_ | refine JL.gskipU rfl rfl rfl rfl rfl ?_ | refine JL.gstep rfl rfl rfl (y_lenS hT rfl rfl rfl) rfl rfl ?_)
 all_goals (first | refine JL.gskip rfl rfl rfl rfl rfl rfl ?_ | refine JL.gskipU rfl rfl rfl rfl rfl ?_ | refine JL.gstep rfl rfl rfl (y_leq rfl rfl) rfl rfl ?_)
 all_goals (refine JL.step (y_pick rfl rfl rfl) rfl rfl rfl ?_)
 all_goals (refine JL.step (y_move rfl) rfl rfl rfl ?_)
 all_goals (first | (refine JL.gsplit_dec rfl rfl rfl (fun h => ?_) (fun h => ?_) <;> try (first | (exfalso; omega) | exact absurd rfl h)) | (refine JL.gsplit rfl rfl rfl (fun h => ?_) (fun h => ?_) <;> try (first | cases h | (exfalso; simp at h; done))) | skip)
 all_goals (first | refine JL.gskip rfl rfl rfl rfl rfl rfl ?_ | refine JL.gskipU rfl rfl rfl rfl rfl ?_ | refine JL.gstep rfl rfl rfl (y_move rfl) rfl rfl ?_)
 all_goals (first | refine JL.gskip rfl rfl rfl rfl rfl rfl ?_ | refine JL.gskipU rfl rfl rfl rfl rfl ?_ | (refine JL.gloud rfl rfl rfl (l_callF e45 rfl rfl (rodd_spec E xs _ hB hl) ?_); rintro _ _ ⟨rfl, rfl⟩))
 all_goals (first | refine JL.gskip rfl rfl rfl rfl rfl rfl ?_ | refine JL.gskipU rfl rfl rfl rfl rfl ?_ | refine JL.gstep rfl rfl rfl (y_lss rfl rfl) rfl rfl ?_)
 all_goals (refine JL.step (y_pick rfl rfl rfl) rfl rfl rfl ?_)
 all_goals (refine JL.step (y_assign rfl) rfl rfl rfl ?_)
 all_goals refine JL.nil (JE.then_normal ?_)
 all_goals
  refine J.ret ?_
  refine JE.ret1 (.inl rfl) rfl rfl (by (first | exact RV.tmp rfl | exact RV.cell1 hT rfl rfl rfl (by (exact Rd1.row (by (repeat (first | exact Pick.head | apply Pick.tail | apply Pick.app))) (by rfl))) | exact RV.cellN hT rfl rfl rfl (by (first | exact RdN.rowAll (by (repeat (first | exact Pick.head | apply Pick.tail | apply Pick.app))) | exact RdN.own (by (repeat (first | exact Pick.head | apply Pick.tail | apply Pick.app))))) (by (first | rfl | assumption | (simp; done) | omega)))) ?_
  refine ⟨?_, fun w h => h⟩
  unfold textB
  by_cases hx : xs = []
  · subst hx
    first | rfl | (exfalso; simp at *; done) | simp_all
  · have h1 : 1 ≤ xs.length := List.length_pos_iff.2 hx
    rw [decide_eq_true hx, Bool.true_and]
    first | (have h48 : xs.length ≤ 48 := by omega
             rw [decide_eq_true h48]; rfl) | (have h48 : ¬ xs.length ≤ 48 := by omega
                                              rw [decide_eq_false h48]; rfl) | (exfalso; omega)
theorem rname_spec (xs : List Int) (l : List HProp) (hB : Bys xs) (hl : xs.length ≤ 1000000) : Fc prog E 48 [.string (strOf xs)].toArray l (fun v l' => v = .bool (nameB xs) ∧ l' = l) := by
 refine Fc.eqs ?_
 refine Fc.of_body (c := ?codeC) Tryz.func48 ?hb Tryz.ntmps48 ?hl ?_
 case hb => exact rfl
 case hl => exact rfl
 refine J.seq (J.region (JL.step (y_assign rfl) rfl rfl rfl ?_))
 refine JL.nil (JE.then_normal (J.seq (J.seq (J.region (JL.step (y_assign rfl) rfl rfl rfl ?_)))))
 refine JL.nil (JE.then_normal (J.block ?_))
 refine J.loop (α := Nat) (fun i => i ≤ xs.length ∧ ∀ (j : Nat) y, j < i → xs[j]? = some y → nmB y = true) (fun i => [(0, .string (strOf xs)), (3, .int .i64 i)]) (fun _ => l) (fun i => xs.length - i) 0 ⟨Nat.zero_le _, by omega⟩ ⟨rfl, rfl, trivial⟩ (fun w h => h) ?_
 rintro i ⟨hi, hb⟩
 try dsimp only
 refine J.seq (J.seq (J.region (JL.step (y_move rfl) rfl rfl rfl (JL.step (y_move rfl) rfl rfl rfl ?_))))
 refine JL.step (y_lenS hT rfl rfl rfl) rfl rfl rfl ?_
 refine JL.step (y_lss rfl rfl) rfl rfl rfl ?_
 refine JL.nil (JE.then_normal ?_)
 first | apply J.cond_dec rfl | apply J.cond rfl
 case' ht =>
  intro h
  try (first | (exfalso; omega) | (cases h; done) | (exfalso; simp at h; done) | subst h)
  all_goals
   refine J.skip ?_
 case' hf =>
  intro h
  try (first | (exfalso; omega) | (cases h; done) | (exfalso; simp at h; done) | subst h)
  all_goals
   refine J.exit (JE.then_exit (JE.then_exit (JE.block_exit (JE.then_normal (J.seq (J.region (JL.step (y_move rfl) rfl rfl rfl ?_)))))))
   refine JL.step (y_lenS hT rfl rfl rfl) rfl rfl rfl ?_
   refine JL.step (y_geq rfl rfl) rfl rfl rfl (JL.step (y_move rfl) rfl rfl rfl ?_)
   all_goals (first | (refine JL.gsplit_dec rfl rfl rfl (fun h => ?_) (fun h => ?_) <;> try (first | (exfalso; omega) | exact absurd rfl h)) | (refine JL.gsplit rfl rfl rfl (fun h => ?_) (fun h => ?_) <;> try (first | cases h | (exfalso; simp at h; done))) | skip)
   all_goals (first | refine JL.gskip rfl rfl rfl rfl rfl rfl ?_ | refine JL.gskipU rfl rfl rfl rfl rfl ?_ | refine JL.gstep rfl rfl rfl (y_move rfl) rfl rfl ?_)
   all_goals (first | refine JL.gskip rfl rfl rfl rfl rfl rfl ?_ | refine JL.gskipU rfl rfl rfl rfl rfl ?_ | refine JL.gstep rfl rfl rfl (y_lenS hT rfl rfl rfl) rfl rfl ?_)
   all_goals (first | refine JL.gskip rfl rfl rfl rfl rfl rfl ?_ | refine JL.gskipU rfl rfl rfl rfl rfl ?_ | refine JL.gstep rfl rfl rfl (y_leq rfl rfl) rfl rfl ?_)
   all_goals (refine JL.step (y_pick rfl rfl rfl) rfl rfl rfl ?_)
   all_goals (refine JL.step (y_assign rfl) rfl rfl rfl ?_)
   all_goals refine JL.nil (JE.then_normal ?_)
   all_goals
    refine J.ret ?_
    refine JE.ret1 (.inl rfl) rfl rfl (by (first | exact RV.tmp rfl | exact RV.cell1 hT rfl rfl rfl (by (exact Rd1.row (by (repeat (first | exact Pick.head | apply Pick.tail | apply Pick.app))) (by rfl))) | exact RV.cellN hT rfl rfl rfl (by (first | exact RdN.rowAll (by (repeat (first | exact Pick.head | apply Pick.tail | apply Pick.app))) | exact RdN.own (by (repeat (first | exact Pick.head | apply Pick.tail | apply Pick.app))))) (by (first | rfl | assumption | (simp; done) | omega)))) ?_
    first
    | (have zz : i < xs.length := hlt
       have hn : nmB x = false := by
        unfold nmB
        simp
        first | omega | (have hb : b45 = false := by simpa using h
                         have := of_decide_eq_false (h45.symm.trans hb); omega) | (have := of_decide_eq_false h45.symm; omega)
       rw [nmB_bad hh hn]
       exact ⟨rfl, fun w h => h⟩)
    | (obtain rfl : i = xs.length := by omega
       have ha := nmB_all hb
       unfold nameB
       rw [ha, Bool.true_and]
       refine ⟨?_, fun w h => h⟩
       by_cases hx : xs = []
       · subst hx
         first | rfl | (exfalso; simp at *; done) | simp_all
       · have h1 : 1 ≤ xs.length := List.length_pos_iff.2 hx
         rw [decide_eq_true hx, Bool.true_and]
         first
         | (exfalso; omega)
         | (have h16 : xs.length ≤ 16 := by omega
            rw [decide_eq_true h16]; first | rfl | (congr 1; exact decide_eq_true (by omega)))
         | (have h16 : ¬ xs.length ≤ 16 := by omega
            rw [decide_eq_false h16]; first | rfl | (congr 1; exact decide_eq_false (by omega)))
         | (show Value.bool (decide ((xs.length : Int) ≤ 16)) = _
            congr 1
            exact decide_eq_decide.2 (by omega)))
 all_goals refine JE.then_normal ?_
 all_goals
  refine J.seq (J.block (J.seq ?_))
  have hlt : i < xs.length := by omega
  obtain ⟨x, hh⟩ : ∃ x, xs[i]? = some x := ⟨xs[i]'(by omega), List.getElem?_eq_getElem _⟩
  obtain ⟨b45, h45⟩ : ∃ b, b = decide (x = 45) := ⟨_, rfl⟩
  refine J.region (JL.step (y_move rfl) rfl rfl rfl (JL.step (y_move rfl) rfl rfl rfl ?_))
  refine JL.step (y_ixS hT hB rfl rfl rfl rfl rfl hh) rfl rfl rfl ?_
  refine JL.step (y_assign rfl) rfl rfl rfl ?_
  refine JL.nil (JE.then_normal (J.seq (J.region (JL.step (y_move rfl) rfl rfl rfl (JL.step (y_geq rfl rfl) rfl rfl rfl (JL.step (y_move rfl) rfl rfl rfl ?_))))))
  all_goals (first | (refine JL.gsplit_dec rfl rfl rfl (fun h => ?_) (fun h => ?_) <;> try (first | (exfalso; omega) | exact absurd rfl h)) | (refine JL.gsplit rfl rfl rfl (fun h => ?_) (fun h => ?_) <;> try (first | cases h | (exfalso; simp at h; done))) | skip)
  all_goals (first | refine JL.gskip rfl rfl rfl rfl rfl rfl ?_ | refine JL.gskipU rfl rfl rfl rfl rfl ?_ | refine JL.gstep rfl rfl rfl (y_move rfl) rfl rfl ?_)
  all_goals (first | refine JL.gskip rfl rfl rfl rfl rfl rfl ?_ | refine JL.gskipU rfl rfl rfl rfl rfl ?_ | refine JL.gstep rfl rfl rfl (y_leq rfl rfl) rfl rfl ?_)
  all_goals (refine JL.step (y_pick rfl rfl rfl) rfl rfl rfl ?_)
  all_goals (refine JL.step (y_move rfl) rfl rfl rfl ?_)
  all_goals (first | (refine JL.gsplit_dec rfl rfl rfl (fun h => ?_) (fun h => ?_) <;> try (first | (exfalso; omega) | exact absurd rfl h)) | (refine JL.gsplit rfl rfl rfl (fun h => ?_) (fun h => ?_) <;> try (first | cases h | (exfalso; simp at h; done))) | skip)
  all_goals (first | refine JL.gskip rfl rfl rfl rfl rfl rfl ?_ | refine JL.gskipU rfl rfl rfl rfl rfl ?_ | refine JL.gstep rfl rfl rfl (y_move rfl) rfl rfl ?_)
  all_goals (first | refine JL.gskip rfl rfl rfl rfl rfl rfl ?_ | refine JL.gskipU rfl rfl rfl rfl rfl ?_ | refine JL.gstep rfl rfl rfl (y_geq rfl rfl) rfl rfl ?_)
  all_goals (first | refine JL.gskip rfl rfl rfl rfl rfl rfl ?_ | refine JL.gskipU rfl rfl rfl rfl rfl ?_ | refine JL.gstep rfl rfl rfl (y_move rfl) rfl rfl ?_)
  all_goals (first | (refine JL.gsplit_dec rfl rfl rfl (fun h => ?_) (fun h => ?_) <;> try (first | (exfalso; omega) | exact absurd rfl h)) | (refine JL.gsplit rfl rfl rfl (fun h => ?_) (fun h => ?_) <;> try (first | cases h | (exfalso; simp at h; done))) | skip)
  all_goals (first | refine JL.gskip rfl rfl rfl rfl rfl rfl ?_ | refine JL.gskipU rfl rfl rfl rfl rfl ?_ | refine JL.gstep rfl rfl rfl (y_move rfl) rfl rfl ?_)
  all_goals (first | refine JL.gskip rfl rfl rfl rfl rfl rfl ?_ | refine JL.gskipU rfl rfl rfl rfl rfl ?_ | refine JL.gstep rfl rfl rfl (y_leq rfl rfl) rfl rfl ?_)
  all_goals (first | refine JL.gskip rfl rfl rfl rfl rfl rfl ?_ | refine JL.gskipU rfl rfl rfl rfl rfl ?_ | refine JL.gstep rfl rfl rfl (y_pick rfl rfl rfl) rfl rfl ?_)
  all_goals (refine JL.step (y_pick rfl rfl rfl) rfl rfl rfl ?_)
  all_goals (refine JL.step (y_move rfl) rfl rfl rfl ?_)
  all_goals (first | (refine JL.gsplit_dec rfl rfl rfl (fun h => ?_) (fun h => ?_) <;> try (first | (exfalso; omega) | exact absurd rfl h)) | (refine JL.gsplit rfl rfl rfl (fun h => ?_) (fun h => ?_) <;> try (first | cases h | (exfalso; simp at h; done))) | skip)
  all_goals (first | refine JL.gskip rfl rfl rfl rfl rfl rfl ?_ | refine JL.gskipU rfl rfl rfl rfl rfl ?_ | refine JL.gstep rfl rfl rfl (y_move rfl) rfl rfl ?_)
  all_goals (first | refine JL.gskip rfl rfl rfl rfl rfl rfl ?_ | refine JL.gskipU rfl rfl rfl rfl rfl ?_ | refine JL.gstep rfl rfl rfl (y_eqlB rfl rfl h45.symm) rfl rfl ?_)
  all_goals (refine JL.step (y_pick rfl rfl rfl) rfl rfl rfl ?_)
  all_goals (refine JL.step (y_not rfl) rfl rfl rfl ?_)
  all_goals refine JL.nil (JE.then_normal ?_)
  all_goals
   first | apply J.cond_dec rfl | apply J.cond rfl
   case' ht =>
    intro h
    try (first | (exfalso; omega) | (cases h; done) | (exfalso; simp at h; done) | subst h)
    all_goals
     refine J.seq (J.region (JL.step (y_assign rfl) rfl rfl rfl ?_))
     refine JL.nil (JE.then_normal (J.ret (JE.block_ret (JE.then_ret (JE.then_ret (JE.block_ret (JE.then_ret ?_)))))))
     refine JE.ret1 (.inl rfl) rfl rfl (by (first | exact RV.tmp rfl | exact RV.cell1 hT rfl rfl rfl (by (exact Rd1.row (by (repeat (first | exact Pick.head | apply Pick.tail | apply Pick.app))) (by rfl))) | exact RV.cellN hT rfl rfl rfl (by (first | exact RdN.rowAll (by (repeat (first | exact Pick.head | apply Pick.tail | apply Pick.app))) | exact RdN.own (by (repeat (first | exact Pick.head | apply Pick.tail | apply Pick.app))))) (by (first | rfl | assumption | (simp; done) | omega)))) ?_
     first
     | (have zz : i < xs.length := hlt
        have hn : nmB x = false := by
         unfold nmB
         simp
         first | omega | (have hb : b45 = false := by simpa using h
                          have := of_decide_eq_false (h45.symm.trans hb); omega) | (have := of_decide_eq_false h45.symm; omega)
        rw [nmB_bad hh hn]
        exact ⟨rfl, fun w h => h⟩)
     | (obtain rfl : i = xs.length := by omega
        have ha := nmB_all hb
        unfold nameB
        rw [ha, Bool.true_and]
        refine ⟨?_, fun w h => h⟩
        by_cases hx : xs = []
        · subst hx
          first | rfl | (exfalso; simp at *; done) | simp_all
        · have h1 : 1 ≤ xs.length := List.length_pos_iff.2 hx
          rw [decide_eq_true hx, Bool.true_and]
          first
          | (exfalso; omega)
          | (have h16 : xs.length ≤ 16 := by omega
             rw [decide_eq_true h16]; first | rfl | (congr 1; exact decide_eq_true (by omega)))
          | (have h16 : ¬ xs.length ≤ 16 := by omega
             rw [decide_eq_false h16]; first | rfl | (congr 1; exact decide_eq_false (by omega)))
          | (show Value.bool (decide ((xs.length : Int) ≤ 16)) = _
             congr 1
             exact decide_eq_decide.2 (by omega)))
   case' hf =>
    intro h
    try (first | (exfalso; omega) | (cases h; done) | (exfalso; simp at h; done) | subst h)
    all_goals
     refine J.skip ?_
  all_goals refine JE.block_normal (JE.then_normal ?_)
  all_goals
   refine J.region (JL.step (y_move rfl) rfl rfl rfl ?_)
   refine JL.step (y_add rfl rfl (by (first | exact wrap_i64 (by omega) (by omega) | rfl))) rfl rfl rfl ?_
   refine JL.step (y_assign rfl) rfl rfl rfl ?_
   refine JL.nil ?_
 all_goals
  have hn : nmB x = true := by
   unfold nmB
   simp
   first | omega | (have hb : b45 = true := by simpa using h
                    have := of_decide_eq_true (h45.symm.trans hb); omega) | (have := of_decide_eq_true h45.symm; omega)
  exact JE.round (s := i) (i + 1) ⟨by omega, fun j y hj hy => by
   rcases Nat.lt_or_ge j i with q | q
   · exact hb j y q hy
   · obtain rfl : j = i := by omega
     rw [hh] at hy
     cases hy
     exact hn⟩ ⟨rfl, rfl, trivial⟩ (fun w h => h) (by omega)
theorem rquote_spec (xs : List Int) (l : List HProp) (hB : Bys xs) (hl : xs.length ≤ 1000000) :
 Fc prog E 26 [.string (strOf xs)].toArray l (fun v l' => v = .string (strOf (quoT xs)) ∧ l' = l) := by
 refine Fc.eqs ?_
 refine Fc.of_body (c := ?codeC) Tryz.func26 ?hb Tryz.ntmps26 ?hl ?_
 case hb => exact rfl
 case hl => exact rfl
 refine J.seq (J.region (JL.step (y_assign rfl) rfl rfl rfl ?_))
 refine JL.nil (JE.then_normal (J.seq (J.region (JL.step (y_assign rfl) rfl rfl rfl ?_))))
 refine JL.nil (JE.then_normal (J.seq (J.seq (J.region (JL.step (y_assign rfl) rfl rfl rfl ?_)))))
 refine JL.nil (JE.then_normal (J.block ?_))
 refine J.loop (α := Nat) (fun i => i ≤ xs.length) (fun i => [(0, .string (strOf xs)), (3, .string (strOf (34 :: (xs.take i).flatMap qC))), (4, .int .i64 i)]) (fun _ => l) (fun i => xs.length - i) 0 (Nat.zero_le _) ⟨rfl, by unfold strOf; rfl, rfl, trivial⟩ (fun w h => h) ?_
 intro i hi
 try dsimp only
 have hql := qCs_length (xs.take i)
 rw [List.length_take] at hql
 obtain ⟨ys, hys⟩ : ∃ ys, (xs.take i).flatMap qC = ys := ⟨_, rfl⟩
 rw [hys] at hql ⊢
 refine J.seq (J.seq (J.region (JL.step (y_move rfl) rfl rfl rfl (JL.step (y_move rfl) rfl rfl rfl ?_))))
 refine JL.step (y_lenS hT rfl rfl rfl) rfl rfl rfl ?_
 refine JL.step (y_lss rfl rfl) rfl rfl rfl ?_
 refine JL.nil (JE.then_normal ?_)
 first | apply J.cond_dec rfl | apply J.cond rfl
 case' ht =>
  intro h
  try (first | (exfalso; omega) | (cases h; done) | (exfalso; simp at h; done) | subst h)
  all_goals
   refine J.skip ?_
 case' hf =>
  intro h
  try (first | (exfalso; omega) | (cases h; done) | (exfalso; simp at h; done) | subst h)
  all_goals
   refine J.exit (JE.then_exit (JE.then_exit (JE.block_exit (JE.then_normal (J.seq ?_)))))
   obtain rfl : i = xs.length := by omega
   rw [List.take_length] at hys
   refine J.region (JL.step (y_move rfl) rfl rfl rfl ?_)
   refine JL.step (y_addS (ys := [34]) (zs := quoT xs) rfl (by unfold strOf; rfl) (by unfold quoT; rw [hys]; rfl) (by rw [List.length_cons, List.length_singleton]; omega)) rfl rfl rfl ?_
   refine JL.step (y_assign rfl) rfl rfl rfl ?_
   refine JL.nil (JE.then_normal (J.ret ?_))
   refine JE.ret1 (.inl rfl) rfl rfl (by (first | exact RV.tmp rfl | exact RV.cell1 hT rfl rfl rfl (by (exact Rd1.row (by (repeat (first | exact Pick.head | apply Pick.tail | apply Pick.app))) (by rfl))) | exact RV.cellN hT rfl rfl rfl (by (first | exact RdN.rowAll (by (repeat (first | exact Pick.head | apply Pick.tail | apply Pick.app))) | exact RdN.own (by (repeat (first | exact Pick.head | apply Pick.tail | apply Pick.app))))) (by (first | rfl | assumption | (simp; done) | omega)))) ?_
   exact ⟨rfl, fun w h => h⟩
 all_goals refine JE.then_normal ?_
 all_goals
  refine J.seq (J.block ?_)
  refine J.seqK (α := List Int) (fun zs => i < xs.length ∧ zs.length ≤ 2000010 ∧ ∀ x, xs[i]? = some x → zs ++ [x] = (34 :: ys) ++ qC x) (fun zs => [(0, .string (strOf xs)), (3, .string (strOf zs)), (4, .int .i64 i)]) (fun _ => l) ?hj7 (fun hk7 => ?hf7)
  case hf7 =>
   refine J.seq ?_
   have hlt : i < xs.length := by omega
   obtain ⟨x, hh⟩ : ∃ x, xs[i]? = some x := ⟨xs[i]'(by omega), List.getElem?_eq_getElem _⟩
   obtain ⟨b34, h34⟩ : ∃ b, b = decide (x = 34) := ⟨_, rfl⟩
   obtain ⟨b92, h92⟩ : ∃ b, b = decide (x = 92) := ⟨_, rfl⟩
   refine J.region (JL.step (y_move rfl) rfl rfl rfl (JL.step (y_move rfl) rfl rfl rfl ?_))
   refine JL.step (y_ixS hT hB rfl rfl rfl rfl rfl hh) rfl rfl rfl ?_
   refine JL.step (y_eqlB rfl rfl h34.symm) rfl rfl rfl ?_
   refine JL.step (y_move rfl) rfl rfl rfl ?_
   all_goals (first | (refine JL.gsplit_dec rfl rfl rfl (fun h => ?_) (fun h => ?_) <;> try (first | (exfalso; omega) | exact absurd rfl h)) | (refine JL.gsplit rfl rfl rfl (fun h => ?_) (fun h => ?_) <;> try (first | cases h | (exfalso; simp at h; done))) | skip)
   all_goals (first | refine JL.gskip rfl rfl rfl rfl rfl rfl ?_ | refine JL.gskipU rfl rfl rfl rfl rfl ?_ | refine JL.gstep rfl rfl rfl (y_move rfl) rfl rfl ?_)
   all_goals (first | refine JL.gskip rfl rfl rfl rfl rfl rfl ?_ | refine JL.gskipU rfl rfl rfl rfl rfl ?_ | refine JL.gstep rfl rfl rfl (y_move rfl) rfl rfl ?_)
   all_goals (first | refine JL.gskip rfl rfl rfl rfl rfl rfl ?_ | refine JL.gskipU rfl rfl rfl rfl rfl ?_ | refine JL.gstep rfl rfl rfl (y_ixS hT hB rfl rfl rfl rfl rfl hh) rfl rfl ?_)
   all_goals (first | refine JL.gskip rfl rfl rfl rfl rfl rfl ?_ | refine JL.gskipU rfl rfl rfl rfl rfl ?_ | refine JL.gstep rfl rfl rfl (y_eqlB rfl rfl h92.symm) rfl rfl ?_)
   all_goals (refine JL.step (y_pick rfl rfl rfl) rfl rfl rfl ?_)
   all_goals refine JL.nil (JE.then_normal ?_)
   all_goals
    first | apply J.cond_dec rfl | apply J.cond rfl
    case' ht =>
     intro h
     try (first | (exfalso; omega) | (cases h; done) | (exfalso; simp at h; done) | subst h)
     all_goals
      refine J.region (JL.step (y_move rfl) rfl rfl rfl ?_)
      refine JL.step (y_addS (ys := [92]) rfl (by unfold strOf; rfl) rfl (by rw [List.length_cons, List.length_singleton]; omega)) rfl rfl rfl ?_
      refine JL.step (y_assign rfl) rfl rfl rfl ?_
      refine JL.nil ?_
    case' hf =>
     intro h
     try (first | (exfalso; omega) | (cases h; done) | (exfalso; simp at h; done) | subst h)
     all_goals
      refine J.skip ?_
   all_goals refine JE.then_normal ?_
   all_goals
    first
    | exact J.closeK hk7 ((34 :: ys) ++ [92]) ⟨hlt, by rw [List.length_append, List.length_cons, List.length_singleton]; omega, fun y hy => by
       rw [hh] at hy
       cases hy
       unfold qC
       rw [if_pos (by first | exact .inl (of_decide_eq_true h34.symm) | exact .inr (of_decide_eq_true h92.symm)), List.append_assoc]
       rfl⟩ ⟨rfl, rfl, rfl, trivial⟩ (fun w h => h)
    | exact J.closeK hk7 (34 :: ys) ⟨hlt, by rw [List.length_cons]; omega, fun y hy => by
       rw [hh] at hy
       cases hy
       unfold qC
       rw [if_neg (by
        intro q
        rcases q with q | q
        · exact of_decide_eq_false h34.symm q
        · exact of_decide_eq_false h92.symm q)]⟩ ⟨rfl, rfl, rfl, trivial⟩ (fun w h => h)
  rintro zs ⟨hlt, hzl, hzs⟩
  try dsimp only
  obtain ⟨x, hh⟩ : ∃ x, xs[i]? = some x := ⟨xs[i]'(by omega), List.getElem?_eq_getElem _⟩
  have hzs := hzs x hh
  have hst := qCs_step hh
  rw [hys] at hst
  have hcut : (xs.take (i + 1)).drop i = [x] := by
   rw [List.take_add_one, hh, List.drop_append_of_le_length (by rw [List.length_take]; omega), List.drop_eq_nil_of_le (by rw [List.length_take]; omega)]
   rfl
  refine J.region (JL.step (y_move rfl) rfl rfl rfl (JL.step (y_move rfl) rfl rfl rfl (JL.step (y_move rfl) rfl rfl rfl (JL.step (y_move rfl) rfl rfl rfl ?_))))
  refine JL.step (y_add (m := ((i + 1 : Nat) : Int)) rfl rfl (wrap_i64 (by omega) (by omega))) rfl rfl rfl ?_
  refine JL.step (y_cutS (lo := i) (hi := i + 1) hT hB rfl rfl rfl (.inr ⟨_, _, _, rfl, rfl, rfl⟩) (.inr ⟨_, _, _, rfl, rfl, rfl⟩) (by omega) (by omega)) rfl rfl rfl ?_
  refine JL.step (y_addS (ys := [x]) rfl (by rw [← hcut]; rfl) hzs (by rw [List.length_singleton]; omega)) rfl rfl rfl ?_
  refine JL.step (y_assign rfl) rfl rfl rfl ?_
  refine JL.nil ?_
  all_goals refine JE.block_normal (JE.then_normal ?_)
  all_goals
   refine J.region (JL.step (y_move rfl) rfl rfl rfl ?_)
   refine JL.step (y_add rfl rfl (by (first | exact wrap_i64 (by omega) (by omega) | rfl))) rfl rfl rfl ?_
   refine JL.step (y_assign rfl) rfl rfl rfl ?_
   refine JL.nil ?_
 all_goals
  exact JE.round (s := i) (i + 1) (by omega) ⟨rfl, by rw [hst]; rfl, rfl, trivial⟩ (fun w h => h) (by omega)
end
end
end Go.Proofs.YtccagffapohkhaaGreatDoor
