import Derived.Test.YtccagffapohkhaaGreatDoorJoin6
namespace Go.Proofs.YtccagffapohkhaaGreatDoor
section
open Go Go.SL
section
def lineR (r : RpT) : List Int := joinW (printW r)
def chkB (r : RpT) : Bool := r.texts.all textB && decide ((repS (lineR r)).1 = 0) && decide (repR (lineR r) = r)
end
section
attribute [local irreducible] J JL JE JM LS Y Fc RV Code.wp wpList Code.wpIn wpListIn
attribute [local irreducible] Yc strOf valD dig
variable (E : World)
theorem check_spec (r : RpT) (p1 : Option Addr) (c1 : Nat) (p2 : Option Addr) (c2 : Nat) (l : List HProp) (hr : RpB r) (hq : RpB (repR (lineR r))) (h1 : InL l p1 r.names.length c1 (strs r.names)) (h2 : InL l p2 r.texts.length c2 (strs r.texts)) (hK : K24 E l) :
    Fc prog E 17 [.agg (rpE r (.slice p1 r.names.length c1) (.slice p2 r.texts.length c2)).toArray].toArray l (fun v l' => v = .int .i64 (if chkB r then 0 else 2) ∧ l' = l) := by
  refine Fc.eqs ?_
  obtain ⟨cs, hcs⟩ : ∃ cs, rpE r (.slice p1 r.names.length c1) (.slice p2 r.texts.length c2) = cs := ⟨_, rfl⟩
  have hat := rp_at hr.key (.slice p1 r.names.length c1) (.slice p2 r.texts.length c2)
  have hcl : cs.length = i36.size := by rw [← hcs]; exact rpE_length hr.key _ _
  have ht100 := hr.texts
  obtain ⟨hpl, hpe⟩ := printW_each hr
  have hjl := joinW_le (m := 3000) fun w hw => (hpe w hw).1
  have hjl2 : (joinW (printW r)).length ≤ 1000000 := by
    have : (printW r).length * (3000 + 1) ≤ 102 * (3000 + 1) := Nat.mul_le_mul_right _ hpl
    omega
  have hjB : Bys (joinW (printW r)) := joinW_bys fun w hw => (hpe w hw).2
  rw [hcs] at hat
  rw [hcs]
  refine Fc.of_body (c := ?codeC) Tryz.func17 ?hb Tryz.ntmps17 ?hl ?_
  case hb => exact rfl
  case hl => exact rfl
  refine J.seq ?_
  refine J.region ?_
  refine JL.loud rfl (l_box (cs := cs) rfl rfl rfl (fun b1 => ?_))
  refine JL.step (y_assign rfl) rfl rfl rfl ?_
  refine JL.nil ?_
  refine JE.then_normal ?_
  refine J.seq ?_
  refine J.seq ?_
  refine J.region ?_
  refine JL.step (y_fieldAddr hT rfl rfl rfl rfl rfl rfl) rfl rfl rfl ?_
  refine JL.step (y_load1 hT rfl rfl rfl (Rd1.row (by (repeat (first | exact Pick.head | apply Pick.tail | apply Pick.app))) (hat 1))) rfl rfl rfl ?_
  refine JL.step (y_len_slice hT rfl rfl rfl) rfl rfl rfl (JL.step (y_move rfl) rfl rfl rfl ?_)
  refine JL.nil ?_
  refine JE.then_normal ?_
  refine J.block ?_
  refine J.loop (α := Nat) (fun i => i ≤ r.texts.length ∧ ∀ t ∈ r.texts.take i, textB t = true) (fun i => [(1, .pointer (some ⟨b1, 0, none⟩)), (8, .slice p2 r.texts.length c2), (9, .int .i64 r.texts.length), (10, .int .i64 i)]) (fun _ => row b1 36 cs :: l) (fun i => r.texts.length - i) 0 ⟨Nat.zero_le _, by simp⟩ ⟨rfl, rfl, rfl, rfl, trivial⟩ (fun w h => h) ?_
  rintro i ⟨hi, hall⟩
  try dsimp only
  refine J.seq ?_
  refine J.region ?_
  refine JL.step (y_lss rfl rfl) rfl rfl rfl ?_
  refine JL.nil ?_
  refine JE.then_normal ?_
  refine J.seq ?_
  first | apply J.cond_dec rfl | apply J.cond rfl
  case' ht =>
    intro h
    try (first | (exfalso; omega) | (cases h; done) | (exfalso; simp at h; done) | subst h)
    all_goals
      refine J.skip ?_
  case' hf =>
    intro h
    try (first | (exfalso; omega) | (cases h; done) | (exfalso; simp at h; done) | subst h)
    all_goals
      refine J.exit ?_
      refine JE.then_exit ?_
      refine JE.then_exit ?_
      refine JE.block_exit ?_
      refine JE.then_normal ?_
      refine J.seq ?_
      have hall2 : r.texts.all textB = true := by
        obtain rfl : i = r.texts.length := by omega
        rw [List.take_length] at hall
        exact List.all_eq_true.2 hall
      refine J.region ?_
      refine JL.step (y_loadN hT rfl rfl rfl (RdN.rowAll (by (repeat (first | exact Pick.head | apply Pick.tail | apply Pick.app)))) hcl) rfl rfl rfl ?_
      refine JL.loud rfl (l_callF e46 rfl rfl (hcs ▸ printR_spec E r p1 c1 p2 c2 _ hr (h1.cons _) (h2.cons _) (hK.cons _)) ?_)
      rintro _ l20 ⟨rfl, e20⟩
      obtain rfl := e20.symm
      refine JL.loud rfl (l_callF e29 rfl rfl (lreply_spec E (lineR r) _ hjB hjl2 (hK.cons _)) ?_)
      rintro _ l21 ⟨cells, K, hQ, rfl, e21⟩
      obtain rfl := e21
      obtain ⟨p3, c3, p4, c4, hqo, hs3, hs4, hce⟩ := hQ
      obtain ⟨q, hqq⟩ : ∃ q, repR (lineR r) = q := ⟨_, rfl⟩
      obtain ⟨e0, he0⟩ : ∃ e, (repS (lineR r)).1 = e := ⟨_, rfl⟩
      obtain ⟨e1, he1⟩ : ∃ e, (repS (lineR r)).2 = e := ⟨_, rfl⟩
      rw [hqq] at hqo hs3 hs4 hce hq
      rw [he0, he1]
      have hcl2 : cells.length = i36.size := by rw [hce]; exact rpE_length hqo.key _ _
      have hone2 : ∀ v ∈ cells, v.oneCell' = true := by rw [hce]; exact rpE_one q rfl rfl
      obtain ⟨be, hbe⟩ : ∃ b, decide (¬ e0 = 0) = b := ⟨_, rfl⟩
      obtain ⟨bs, hbs⟩ : ∃ b, decide (q = r) = b := ⟨_, rfl⟩
      refine JL.step (y_move rfl) rfl rfl rfl (JL.step (y_extract rfl rfl) rfl rfl rfl (JL.step (y_extract rfl rfl) rfl rfl rfl ?_))
      refine JL.loud rfl (l_alloc hT rfl rfl (by (first | rfl | simp)) rfl (fun b3 => ?_))
      refine JL.loud rfl (l_alloc hT rfl rfl (by (first | rfl | simp)) rfl (fun b4 => ?_))
      refine JL.loud rfl (l_storeAll hT rfl rfl rfl hcl2 hone2 (by (repeat (first | exact Pick.head | apply Pick.tail | apply Pick.app))) (by (first | rfl | assumption | (simp; done) | omega)) ?_)
      refine JL.loud rfl (l_storeAll hT rfl rfl rfl (by (first | rfl | assumption | (simp; done) | omega)) (by (first | assumption | exact ones_of rfl | exact encW_one _ | exact encB_one _ | (intro u hu; simp at hu; rcases hu with rfl | rfl <;> rfl) | (intro u hu; simp at hu; subst hu; rfl) | simp)) (by (repeat (first | exact Pick.head | apply Pick.tail | apply Pick.app))) (by (first | rfl | assumption | (simp; done) | omega)) ?_)
      refine JL.nil ?_
      refine JE.then_normal ?_
      refine J.seq ?_
      refine J.seq ?_
      refine J.region ?_
      refine JL.step (y_fieldAddr hT rfl rfl rfl rfl rfl rfl) rfl rfl rfl ?_
      refine JL.step (y_load1 hT rfl rfl rfl (by (exact Rd1.row (by (repeat (first | exact Pick.head | apply Pick.tail | apply Pick.app))) (by rfl)))) rfl rfl rfl ?_
      refine JL.step (y_neqB rfl rfl hbe) rfl rfl rfl ?_
      refine JL.step (y_move rfl) rfl rfl rfl ?_
      all_goals (first | (refine JL.gsplit_dec rfl rfl rfl (fun h => ?_) (fun h => ?_) <;> try (first | (exfalso; omega) | exact absurd rfl h)) | (refine JL.gsplit rfl rfl rfl (fun h => ?_) (fun h => ?_) <;> try (first | cases h | (exfalso; simp at h; done))) | skip)
      all_goals (first | refine JL.gskip rfl rfl rfl rfl rfl rfl ?_ | refine JL.gskipU rfl rfl rfl rfl rfl ?_ | refine JL.gstep rfl rfl rfl (y_loadN hT rfl rfl rfl (RdN.rowAll (by (repeat (first | exact Pick.head | apply Pick.tail | apply Pick.app)))) hcl2) rfl rfl ?_)
      all_goals (first | refine JL.gskip rfl rfl rfl rfl rfl rfl ?_ | refine JL.gskipU rfl rfl rfl rfl rfl ?_ | refine JL.gstep rfl rfl rfl (y_loadN hT rfl rfl rfl (RdN.rowAll (by (repeat (first | exact Pick.head | apply Pick.tail | apply Pick.app)))) hcl) rfl rfl ?_)
      all_goals (first | refine JL.gskip rfl rfl rfl rfl rfl rfl ?_ | refine JL.gskipU rfl rfl rfl rfl rfl ?_ | (refine JL.gloud rfl rfl rfl (l_callF e47 rfl rfl (hcs ▸ hce ▸ hbs ▸ same_spec E q r p3 p4 p1 p2 c3 c4 c1 c2 _ hq hr (hs3.inl.kept (by (repeat (first | exact Pick.head | apply Pick.tail | apply Pick.app)))) (hs4.inl.kept (by (repeat (first | exact Pick.head | apply Pick.tail | apply Pick.app)))) ((((h1.cons _).cons _).cons _).cons _) ((((h2.cons _).cons _).cons _).cons _)) ?_); rintro _ _ ⟨rfl, rfl⟩))
      all_goals (first | refine JL.gskip rfl rfl rfl rfl rfl rfl ?_ | refine JL.gskipU rfl rfl rfl rfl rfl ?_ | refine JL.gstep rfl rfl rfl (y_not rfl) rfl rfl ?_)
      all_goals (refine JL.step (y_pick rfl rfl rfl) rfl rfl rfl ?_)
      all_goals refine JL.nil ?_
      all_goals refine JE.then_normal ?_
      all_goals
        first | apply J.cond_dec rfl | apply J.cond rfl
        case' ht =>
          intro h
          try (first | (exfalso; omega) | (cases h; done) | (exfalso; simp at h; done) | subst h)
          all_goals
            refine J.seq ?_
            refine J.region ?_
            refine JL.step (y_assign rfl) rfl rfl rfl ?_
            refine JL.nil ?_
            refine JE.then_normal ?_
            refine J.ret ?_
            refine JE.then_ret ?_
            refine JE.ret1 (.inl rfl) rfl rfl (by (first | exact RV.tmp rfl | exact RV.cell1 hT rfl rfl rfl (by (exact Rd1.row (by (repeat (first | exact Pick.head | apply Pick.tail | apply Pick.app))) (by rfl))) | exact RV.cellN hT rfl rfl rfl (by (first | exact RdN.rowAll (by (repeat (first | exact Pick.head | apply Pick.tail | apply Pick.app))) | exact RdN.own (by (repeat (first | exact Pick.head | apply Pick.tail | apply Pick.app))))) (by (first | rfl | assumption | (simp; done) | omega)))) ?_
            first
            | (have zz := hbt
               have hbt2 : bt = false := by simpa using h
               have hno : chkB r = false := by
                 unfold chkB
                 have : r.texts.all textB = false := by
                   rw [Bool.eq_false_iff]
                   intro q
                   have := List.all_eq_true.1 q t (List.mem_of_getElem? hh)
                   rw [hbt, hbt2] at this
                   cases this
                 rw [this]
                 rfl
               rw [hno]
               exact ⟨rfl, fun w h => h.sup (by (repeat (first | exact Sup.refl | apply Sup.cons (by (repeat (first | exact Pick.head | apply Pick.tail | apply Pick.app))) | apply Sup.app | apply Sup.skip | apply Sup.skips)))⟩)
            | (have hv : chkB r = (decide (e0 = 0) && decide (q = r)) := by
                 unfold chkB
                 rw [hall2, hqq, he0, Bool.true_and]
               rw [hv]
               refine ⟨?_, fun w h => h.sup (by (repeat (first | exact Sup.refl | apply Sup.cons (by (repeat (first | exact Pick.head | apply Pick.tail | apply Pick.app))) | apply Sup.app | apply Sup.skip | apply Sup.skips)))⟩
               by_cases hz : e0 = 0
               · rw [decide_eq_false (not_not_intro hz)] at hbe
                 rw [decide_eq_true hz, Bool.true_and, hbs]
                 first | rfl | (subst hbe; first | rfl | (simp at h; done) | (cases bs <;> first | rfl | (simp at h; done))) | (cases bs <;> first | rfl | (simp at h; done)) | (simp_all; done)
               · rw [decide_eq_true hz] at hbe
                 rw [decide_eq_false hz, Bool.false_and]
                 first | rfl | (subst hbe; first | rfl | (simp at h; done)) | (simp_all; done))
        case' hf =>
          intro h
          try (first | (exfalso; omega) | (cases h; done) | (exfalso; simp at h; done) | subst h)
          all_goals
            refine J.skip ?_
      all_goals refine JE.then_normal ?_
      all_goals
        refine J.seq ?_
        refine J.region ?_
        refine JL.step (y_assign rfl) rfl rfl rfl ?_
        refine JL.nil ?_
        refine JE.then_normal ?_
        refine J.ret ?_
        refine JE.ret1 (.inl rfl) rfl rfl (by (first | exact RV.tmp rfl | exact RV.cell1 hT rfl rfl rfl (by (exact Rd1.row (by (repeat (first | exact Pick.head | apply Pick.tail | apply Pick.app))) (by rfl))) | exact RV.cellN hT rfl rfl rfl (by (first | exact RdN.rowAll (by (repeat (first | exact Pick.head | apply Pick.tail | apply Pick.app))) | exact RdN.own (by (repeat (first | exact Pick.head | apply Pick.tail | apply Pick.app))))) (by (first | rfl | assumption | (simp; done) | omega)))) ?_
        first
        | (have zz := hbt
           have hbt2 : bt = false := by simpa using h
           have hno : chkB r = false := by
             unfold chkB
             have : r.texts.all textB = false := by
               rw [Bool.eq_false_iff]
               intro q
               have := List.all_eq_true.1 q t (List.mem_of_getElem? hh)
               rw [hbt, hbt2] at this
               cases this
             rw [this]
             rfl
           rw [hno]
           exact ⟨rfl, fun w h => h.sup (by (repeat (first | exact Sup.refl | apply Sup.cons (by (repeat (first | exact Pick.head | apply Pick.tail | apply Pick.app))) | apply Sup.app | apply Sup.skip | apply Sup.skips)))⟩)
        | (have hv : chkB r = (decide (e0 = 0) && decide (q = r)) := by
             unfold chkB
             rw [hall2, hqq, he0, Bool.true_and]
           rw [hv]
           refine ⟨?_, fun w h => h.sup (by (repeat (first | exact Sup.refl | apply Sup.cons (by (repeat (first | exact Pick.head | apply Pick.tail | apply Pick.app))) | apply Sup.app | apply Sup.skip | apply Sup.skips)))⟩
           by_cases hz : e0 = 0
           · rw [decide_eq_false (not_not_intro hz)] at hbe
             rw [decide_eq_true hz, Bool.true_and, hbs]
             first | rfl | (subst hbe; first | rfl | (simp at h; done) | (cases bs <;> first | rfl | (simp at h; done))) | (cases bs <;> first | rfl | (simp at h; done)) | (simp_all; done)
           · rw [decide_eq_true hz] at hbe
             rw [decide_eq_false hz, Bool.false_and]
             first | rfl | (subst hbe; first | rfl | (simp at h; done)) | (simp_all; done))
  all_goals refine JE.then_normal ?_
  all_goals
    refine J.seq ?_
    refine J.block ?_
    refine J.seq ?_
    have hlt : i < r.texts.length := by omega
    obtain ⟨t, hh⟩ : ∃ t, r.texts[i]? = some t := ⟨r.texts[i]'(by omega), List.getElem?_eq_getElem _⟩
    obtain ⟨htB, htL⟩ := hr.tb t (List.mem_of_getElem? hh)
    obtain ⟨g2, o2, rfl, hrd⟩ := h2.addr (by omega)
    obtain ⟨bt, hbt⟩ : ∃ b, textB t = b := ⟨_, rfl⟩
    refine J.region ?_
    refine JL.step (y_indexAddr_slice hT rfl rfl rfl rfl rfl (by (first | omega | exact Nat.le_of_ble_eq_true rfl | decide | (simp; omega))) (by (first | omega | exact Nat.le_of_ble_eq_true rfl | decide | (simp; omega)))) rfl rfl rfl ?_
    refine JL.step (y_load1 hT rfl rfl rfl (Rd1.elem ((hrd []).cons _) (strs_at hh))) rfl rfl rfl ?_
    refine JL.step (y_assign rfl) rfl rfl rfl ?_
    refine JL.nil ?_
    refine JE.then_normal ?_
    refine J.seq ?_
    refine J.region ?_
    refine JL.step (y_move rfl) rfl rfl rfl ?_
    refine JL.loud rfl (l_callF e27 rfl rfl (hbt ▸ text_spec E t _ htB (by omega)) ?_)
    rintro _ _ ⟨rfl, rfl⟩
    refine JL.step (y_not rfl) rfl rfl rfl ?_
    refine JL.nil ?_
    refine JE.then_normal ?_
    first | apply J.cond_dec rfl | apply J.cond rfl
    case' ht =>
      intro h
      try (first | (exfalso; omega) | (cases h; done) | (exfalso; simp at h; done) | subst h)
      all_goals
        refine J.seq ?_
        refine J.region ?_
        refine JL.step (y_assign rfl) rfl rfl rfl ?_
        refine JL.nil ?_
        refine JE.then_normal ?_
        refine J.ret ?_
        refine JE.block_ret ?_
        refine JE.then_ret ?_
        refine JE.then_ret ?_
        refine JE.block_ret ?_
        refine JE.then_ret ?_
        refine JE.ret1 (.inl rfl) rfl rfl (by (first | exact RV.tmp rfl | exact RV.cell1 hT rfl rfl rfl (by (exact Rd1.row (by (repeat (first | exact Pick.head | apply Pick.tail | apply Pick.app))) (by rfl))) | exact RV.cellN hT rfl rfl rfl (by (first | exact RdN.rowAll (by (repeat (first | exact Pick.head | apply Pick.tail | apply Pick.app))) | exact RdN.own (by (repeat (first | exact Pick.head | apply Pick.tail | apply Pick.app))))) (by (first | rfl | assumption | (simp; done) | omega)))) ?_
        first
        | (have zz := hbt
           have hbt2 : bt = false := by simpa using h
           have hno : chkB r = false := by
             unfold chkB
             have : r.texts.all textB = false := by
               rw [Bool.eq_false_iff]
               intro q
               have := List.all_eq_true.1 q t (List.mem_of_getElem? hh)
               rw [hbt, hbt2] at this
               cases this
             rw [this]
             rfl
           rw [hno]
           exact ⟨rfl, fun w h => h.sup (by (repeat (first | exact Sup.refl | apply Sup.cons (by (repeat (first | exact Pick.head | apply Pick.tail | apply Pick.app))) | apply Sup.app | apply Sup.skip | apply Sup.skips)))⟩)
        | (have hv : chkB r = (decide (e0 = 0) && decide (q = r)) := by
             unfold chkB
             rw [hall2, hqq, he0, Bool.true_and]
           rw [hv]
           refine ⟨?_, fun w h => h.sup (by (repeat (first | exact Sup.refl | apply Sup.cons (by (repeat (first | exact Pick.head | apply Pick.tail | apply Pick.app))) | apply Sup.app | apply Sup.skip | apply Sup.skips)))⟩
           by_cases hz : e0 = 0
           · rw [decide_eq_false (not_not_intro hz)] at hbe
             rw [decide_eq_true hz, Bool.true_and, hbs]
             first | rfl | (subst hbe; first | rfl | (simp at h; done) | (cases bs <;> first | rfl | (simp at h; done))) | (cases bs <;> first | rfl | (simp at h; done)) | (simp_all; done)
           · rw [decide_eq_true hz] at hbe
             rw [decide_eq_false hz, Bool.false_and]
             first | rfl | (subst hbe; first | rfl | (simp at h; done)) | (simp_all; done))
    case' hf =>
      intro h
      try (first | (exfalso; omega) | (cases h; done) | (exfalso; simp at h; done) | subst h)
      all_goals
        refine J.skip ?_
    all_goals refine JE.block_normal ?_
    all_goals refine JE.then_normal ?_
    all_goals
      refine J.region ?_
      refine JL.step (y_add rfl rfl (by (first | exact wrap_i64 (by omega) (by omega) | rfl))) rfl rfl rfl ?_
      refine JL.step (y_move rfl) rfl rfl rfl ?_
      refine JL.nil ?_
  all_goals
    have hbt2 : textB t = true := hbt.trans (by simpa using h)
    exact JE.round (s := i) (i + 1) ⟨by omega, fun y hy => by
      rw [List.take_add_one, hh, Option.toList_some, List.mem_append, List.mem_singleton] at hy
      rcases hy with hy | rfl
      · exact hall y hy
      · exact hbt2⟩ ⟨rfl, rfl, rfl, rfl, trivial⟩ (fun w h => h) (by omega)
/-- A reply's line; its error. -/
def printF (r : RpT) : List Int × Int := if chkB r then (lineR r, 0) else ([], 2)
theorem printP_spec (r : RpT) (p1 : Option Addr) (c1 : Nat) (p2 : Option Addr) (c2 : Nat) (l : List HProp) (hr : RpB r) (hq : RpB (repR (lineR r))) (h1 : InL l p1 r.names.length c1 (strs r.names)) (h2 : InL l p2 r.texts.length c2 (strs r.texts)) (hK : K24 E l) :
    Fc prog E 16 [.agg (rpE r (.slice p1 r.names.length c1) (.slice p2 r.texts.length c2)).toArray].toArray l (fun v l' => v = .tuple #[.string (strOf (printF r).1), .int .i64 (printF r).2] ∧ l' = l) := by
  refine Fc.eqs ?_
  obtain ⟨cs, hcs⟩ : ∃ cs, rpE r (.slice p1 r.names.length c1) (.slice p2 r.texts.length c2) = cs := ⟨_, rfl⟩
  have hcl : cs.length = i36.size := by rw [← hcs]; exact rpE_length hr.key _ _
  rw [hcs]
  obtain ⟨b, hb⟩ : ∃ b, chkB r = b := ⟨_, rfl⟩
  refine Fc.of_body (c := ?codeC) Tryz.func16 ?hb Tryz.ntmps16 ?hl ?_
  case hb => exact rfl
  case hl => exact rfl
  refine J.seq ?_
  refine J.region ?_
  refine JL.loud rfl (l_box (cs := cs) rfl rfl rfl (fun b1 => ?_))
  refine JL.step (y_assign rfl) rfl rfl rfl (JL.step (y_assign rfl) rfl rfl rfl ?_)
  refine JL.nil ?_
  refine JE.then_normal ?_
  refine J.seq ?_
  refine J.seq ?_
  refine J.region ?_
  refine JL.step (y_loadN hT rfl rfl rfl (RdN.rowAll (by (repeat (first | exact Pick.head | apply Pick.tail | apply Pick.app)))) hcl) rfl rfl rfl ?_
  refine JL.loud rfl (l_callF e17 rfl rfl (hb ▸ hcs ▸ check_spec E r p1 c1 p2 c2 _ hr hq (h1.cons _) (h2.cons _) (hK.cons _)) ?_)
  rintro _ _ ⟨rfl, rfl⟩
  refine JL.step (y_assign rfl) rfl rfl rfl ?_
  refine JL.nil ?_
  refine JE.then_normal ?_
  refine J.seq ?_
  rcases b with _ | _
  all_goals
    refine J.region ?_
    refine JL.step (y_move rfl) rfl rfl rfl (JL.step (y_neq rfl rfl) rfl rfl rfl ?_)
    refine JL.nil ?_
  all_goals refine JE.then_normal ?_
  all_goals
    first | apply J.cond_dec rfl | apply J.cond rfl
    case' ht =>
      intro h
      try (first | (exfalso; omega) | (cases h; done) | (exfalso; simp at h; done) | subst h)
      all_goals
        refine J.seq ?_
        refine J.region ?_
        refine JL.step (y_move rfl) rfl rfl rfl (JL.step (y_assign rfl) rfl rfl rfl (JL.step (y_assign rfl) rfl rfl rfl ?_))
        refine JL.nil ?_
        refine JE.then_normal ?_
        refine J.ret ?_
        refine JE.then_ret ?_
        refine JE.ret2 (.inl rfl) rfl rfl (by (first | exact RV.tmp rfl | exact RV.cell1 hT rfl rfl rfl (by (exact Rd1.row (by (repeat (first | exact Pick.head | apply Pick.tail | apply Pick.app))) (by rfl))) | exact RV.cellN hT rfl rfl rfl (by (first | exact RdN.rowAll (by (repeat (first | exact Pick.head | apply Pick.tail | apply Pick.app))) | exact RdN.own (by (repeat (first | exact Pick.head | apply Pick.tail | apply Pick.app))))) (by (first | rfl | assumption | (simp; done) | omega)))) (by (first | exact RV.tmp rfl | exact RV.cell1 hT rfl rfl rfl (by (exact Rd1.row (by (repeat (first | exact Pick.head | apply Pick.tail | apply Pick.app))) (by rfl))) | exact RV.cellN hT rfl rfl rfl (by (first | exact RdN.rowAll (by (repeat (first | exact Pick.head | apply Pick.tail | apply Pick.app))) | exact RdN.own (by (repeat (first | exact Pick.head | apply Pick.tail | apply Pick.app))))) (by (first | rfl | assumption | (simp; done) | omega)))) ?_
        first
        | (have zz : chkB r = false := hb
           have hp : printF r = ([], 2) := by unfold printF; rw [zz]; rfl
           rw [hp, show strOf (([] : List Int), (2 : Int)).1 = ⟨#[]⟩ by unfold strOf; rfl]
           exact ⟨rfl, fun w h => h.sup (by (repeat (first | exact Sup.refl | apply Sup.cons (by (repeat (first | exact Pick.head | apply Pick.tail | apply Pick.app))) | apply Sup.app | apply Sup.skip | apply Sup.skips)))⟩)
        | (have hp : printF r = (lineR r, 0) := by unfold printF; rw [hb]; rfl
           rw [hp]
           exact ⟨rfl, fun w h => h.sup (by (repeat (first | exact Sup.refl | apply Sup.cons (by (repeat (first | exact Pick.head | apply Pick.tail | apply Pick.app))) | apply Sup.app | apply Sup.skip | apply Sup.skips)))⟩)
    case' hf =>
      intro h
      try (first | (exfalso; omega) | (cases h; done) | (exfalso; simp at h; done) | subst h)
      all_goals
        refine J.skip ?_
  all_goals refine JE.then_normal ?_
  all_goals
    refine J.seq ?_
    refine J.region ?_
    refine JL.step (y_loadN hT rfl rfl rfl (RdN.rowAll (by (repeat (first | exact Pick.head | apply Pick.tail | apply Pick.app)))) hcl) rfl rfl rfl ?_
    refine JL.loud rfl (l_callF e46 rfl rfl (hcs ▸ printR_spec E r p1 c1 p2 c2 _ hr (h1.cons _) (h2.cons _) (hK.cons _)) ?_)
    rintro _ _ ⟨rfl, rfl⟩
    refine JL.step (y_assign rfl) rfl rfl rfl (JL.step (y_assign rfl) rfl rfl rfl ?_)
    refine JL.nil ?_
    refine JE.then_normal ?_
    refine J.ret ?_
    refine JE.ret2 (.inl rfl) rfl rfl (by (first | exact RV.tmp rfl | exact RV.cell1 hT rfl rfl rfl (by (exact Rd1.row (by (repeat (first | exact Pick.head | apply Pick.tail | apply Pick.app))) (by rfl))) | exact RV.cellN hT rfl rfl rfl (by (first | exact RdN.rowAll (by (repeat (first | exact Pick.head | apply Pick.tail | apply Pick.app))) | exact RdN.own (by (repeat (first | exact Pick.head | apply Pick.tail | apply Pick.app))))) (by (first | rfl | assumption | (simp; done) | omega)))) (by (first | exact RV.tmp rfl | exact RV.cell1 hT rfl rfl rfl (by (exact Rd1.row (by (repeat (first | exact Pick.head | apply Pick.tail | apply Pick.app))) (by rfl))) | exact RV.cellN hT rfl rfl rfl (by (first | exact RdN.rowAll (by (repeat (first | exact Pick.head | apply Pick.tail | apply Pick.app))) | exact RdN.own (by (repeat (first | exact Pick.head | apply Pick.tail | apply Pick.app))))) (by (first | rfl | assumption | (simp; done) | omega)))) ?_
    first
    | (have zz : chkB r = false := hb
       have hp : printF r = ([], 2) := by unfold printF; rw [zz]; rfl
       rw [hp, show strOf (([] : List Int), (2 : Int)).1 = ⟨#[]⟩ by unfold strOf; rfl]
       exact ⟨rfl, fun w h => h.sup (by (repeat (first | exact Sup.refl | apply Sup.cons (by (repeat (first | exact Pick.head | apply Pick.tail | apply Pick.app))) | apply Sup.app | apply Sup.skip | apply Sup.skips)))⟩)
    | (have hp : printF r = (lineR r, 0) := by unfold printF; rw [hb]; rfl
       rw [hp]
       exact ⟨rfl, fun w h => h.sup (by (repeat (first | exact Sup.refl | apply Sup.cons (by (repeat (first | exact Pick.head | apply Pick.tail | apply Pick.app))) | apply Sup.app | apply Sup.skip | apply Sup.skips)))⟩)
end
end
section
open Go Go.SL
section
end
end
end Go.Proofs.YtccagffapohkhaaGreatDoor
