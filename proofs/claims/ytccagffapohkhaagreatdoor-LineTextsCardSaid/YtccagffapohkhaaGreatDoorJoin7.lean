import Derived.Test.YtccagffapohkhaaGreatDoorJoin6
namespace Go.Proofs.YtccagffapohkhaaGreatDoor
section
open Go Go.SL
section
def lineR (r : RpT) : List Int := joinW (printW r)
def chkB (r : RpT) : Bool := r.texts.all textB && decide ((repS (lineR r)).1 = 0) && decide (repR (lineR r) = r)
end
section
attribute [local irreducible] J JL JE JM LS Y Fc RV Code.wp wpList Code.wpIn wpListIn
attribute [local irreducible] Yc strOf valD dig
variable (E : World)
theorem check_spec (r : RpT) (p1 : Option Addr) (c1 : Nat) (p2 : Option Addr) (c2 : Nat) (l : List HProp) (hr : RpB r) (hq : RpB (repR (lineR r))) (h1 : InL l p1 r.names.length c1 (strs r.names)) (h2 : InL l p2 r.texts.length c2 (strs r.texts)) (hK : K24 E l) :
    Fc prog E 17 [.agg (rpE r (.slice p1 r.names.length c1) (.slice p2 r.texts.length c2)).toArray].toArray l (fun v l' => v = .int .i64 (if chkB r then 0 else 2) ∧ l' = l) := by
  refine Fc.eqs ?_
  obtain ⟨cs, hcs⟩ : ∃ cs, rpE r (.slice p1 r.names.length c1) (.slice p2 r.texts.length c2) = cs := ⟨_, rfl⟩
  have hat := rp_at hr.key (.slice p1 r.names.length c1) (.slice p2 r.texts.length c2)
  have hcl : cs.length = i36.size := by rw [← hcs]; exact rpE_length hr.key _ _
  have ht100 := hr.texts
  obtain ⟨hpl, hpe⟩ := printW_each hr
  have hjl := joinW_le (m := 3000) fun w hw => (hpe w hw).1
  have hjl2 : (joinW (printW r)).length ≤ 1000000 := by
    have : (printW r).length * (3000 + 1) ≤ 102 * (3000 + 1) := Nat.mul_le_mul_right _ hpl
    omega
  have hjB : Bys (joinW (printW r)) := joinW_bys fun w hw => (hpe w hw).2
  rw [hcs] at hat
  rw [hcs]
  refine Fc.of_body (c := ?codeC) Tryz.func17 ?hb Tryz.ntmps17 ?hl ?_
  case hb => exact rfl
  case hl => exact rfl
  refine J.seq ?_
  refine J.region ?_
  refine JL.loud rfl (l_box (cs := cs) rfl rfl rfl (fun b1 => ?_))
  refine JL.step (y_assign rfl) rfl rfl rfl ?_
  refine JL.nil ?_
  refine JE.then_normal ?_
  refine J.seq ?_
  refine J.seq ?_
  refine J.region ?_
  refine JL.step (y_fieldAddr hT rfl rfl rfl rfl rfl rfl) rfl rfl rfl ?_
  refine JL.step (y_load1 hT rfl rfl rfl (Rd1.row (by (repeat (first | exact Pick.head | apply Pick.tail | apply Pick.app))) (hat 1))) rfl rfl rfl ?_
  refine JL.step (y_len_slice hT rfl rfl rfl) rfl rfl rfl (JL.step (y_move rfl) rfl rfl rfl ?_)
  refine JL.nil ?_
  refine JE.then_normal ?_
  refine J.block ?_
  refine J.loop (α := Nat) (fun i => i ≤ r.texts.length ∧ ∀ t ∈ r.texts.take i, textB t = true) (fun i => [(1, .pointer (some ⟨b1, 0, none⟩)), (8, .slice p2 r.texts.length c2), (9, .int .i64 r.texts.length), (10, .int .i64 i)]) (fun _ => row b1 36 cs :: l) (fun i => r.texts.length - i) 0 ⟨Nat.zero_le _, by simp⟩ ⟨rfl, rfl, rfl, rfl, trivial⟩ (fun w h => h) ?_
  rintro i ⟨hi, hall⟩
  try dsimp only
  refine J.seq ?_
  refine J.region ?_
  refine JL.step (y_lss rfl rfl) rfl rfl rfl ?_
  refine JL.nil ?_
  refine JE.then_normal ?_
  refine J.seq ?_
  first | apply J.cond_dec rfl | apply J.cond rfl
  case' ht =>
    intro h
    try (first | (exfalso; omega) | (cases h; done) | (exfalso; simp at h; done) | subst h)
    all_goals
      refine J.skip ?_
  case' hf =>
    intro h
    try (first | (exfalso; omega) | (cases h; done) | (exfalso; simp at h; done) | subst h)
    all_goals
      refine J.exit ?_
      refine JE.then_exit ?_
      refine JE.then_exit ?_
      refine JE.block_exit ?_
      refine JE.then_normal ?_
      refine J.seq ?_
      have hall2 : r.texts.all textB = true := by
        obtain rfl : i = r.texts.length := by omega
        rw [List.take_length] at hall
        exact List.all_eq_true.2 hall
      refine J.region ?_
      refine JL.step (y_loadN hT rfl rfl rfl (RdN.rowAll (by (repeat (first | exact Pick.head | apply Pick.tail | apply Pick.app)))) hcl) rfl rfl rfl ?_
      refine JL.loud rfl (l_callF e46 rfl rfl (hcs ▸ printR_spec E r p1 c1 p2 c2 _ hr (h1.cons _) (h2.cons _) (hK.cons _)) ?_)
      rintro _ l20 ⟨rfl, e20⟩
      obtain rfl := e20.symm
      refine JL.loud rfl (l_callF e29 rfl rfl (lreply_spec E (lineR r) _ hjB hjl2 (hK.cons _)) ?_)
      rintro _ l21 ⟨cells, K, hQ, rfl, e21⟩
      obtain rfl := e21
      obtain ⟨p3, c3, p4, c4, hqo, hs3, hs4, hce⟩ := hQ
      obtain ⟨q, hqq⟩ : ∃ q, repR (lineR r) = q := ⟨_, rfl⟩
      obtain ⟨e0, he0⟩ : ∃ e, (repS (lineR r)).1 = e := ⟨_, rfl⟩
      obtain ⟨e1, he1⟩ : ∃ e, (repS (lineR r)).2 = e := ⟨_, rfl⟩
      rw [hqq] at hqo hs3 hs4 hce hq
      rw [he0, he1]
      have hcl2 : cells.length = i36.size := by rw [hce]; exact rpE_length hqo.key _ _
      have hone2 : ∀ v ∈ cells, v.oneCell' = true := by rw [hce]; exact rpE_one q rfl rfl
      obtain ⟨be, hbe⟩ : ∃ b, decide (¬ e0 = 0) = b := ⟨_, rfl⟩
      obtain ⟨bs, hbs⟩ : ∃ b, decide (q = r) = b := ⟨_, rfl⟩
      refine JL.step (y_move rfl) rfl rfl rfl (JL.step (y_extract rfl rfl) rfl rfl rfl (JL.step (y_extract rfl rfl) rfl rfl rfl ?_))
      refine JL.loud rfl (l_alloc hT rfl rfl (by (first | rfl | simp)) rfl (fun b3 => ?_))
      refine JL.loud rfl (l_alloc hT rfl rfl (by (first | rfl | simp)) rfl (fun b4 => ?_))
      refine JL.loud rfl (l_storeAll hT rfl rfl rfl hcl2 hone2 (by (repeat (first | exact Pick.head | apply Pick.tail | apply Pick.app))) (by (first | rfl | assumption | (simp; done) | omega)) ?_)
      refine JL.loud rfl (l_storeAll hT rfl rfl rfl (by (first | rfl | assumption | (simp; done) | omega)) (by (first | assumption | exact ones_of rfl | exact encW_one _ | exact encB_one _ | (intro u hu; simp at hu; rcases hu with rfl | rfl <;> rfl) | (intro u hu; simp at hu; subst hu; rfl) | simp)) (by (repeat (first | exact Pick.head | apply Pick.tail | apply Pick.app))) (by (first | rfl | assumption | (simp; done) | omega)) ?_)
      refine JL.nil ?_
      refine JE.then_normal ?_
      refine J.seq ?_
      refine J.seq ?_
      refine J.region ?_
      refine JL.step (y_fieldAddr hT rfl rfl rfl rfl rfl rfl) rfl rfl rfl ?_
      refine JL.step (y_load1 hT rfl rfl rfl (by (exact Rd1.row (by (repeat (first | exact Pick.head | apply Pick.tail | apply Pick.app))) (by rfl)))) rfl rfl rfl ?_
      refine JL.step (y_neqB rfl rfl hbe) rfl rfl rfl ?_
      refine JL.step (y_move rfl) rfl rfl rfl ?_
      all_goals (first | (refine JL.gsplit_dec rfl rfl rfl (fun h => ?_) (fun h => ?_) <;> try (first | (exfalso; omega) | exact absurd rfl h)) | (refine JL.gsplit rfl rfl rfl (fun h => ?_) (fun h => ?_) <;> try (first | cases h | (exfalso; simp at h; done))) | skip)
      all_goals (first | refine JL.gskip rfl rfl rfl rfl rfl rfl ?_ | refine JL.gskipU rfl rfl rfl rfl rfl ?_ | refine JL.gstep rfl rfl rfl (y_loadN hT rfl rfl rfl (RdN.rowAll (by (repeat (first | exact Pick.head | apply Pick.tail | apply Pick.app)))) hcl2) rfl rfl ?_)
      all_goals (first | refine JL.gskip rfl rfl rfl rfl rfl rfl ?_ | refine JL.gskipU rfl rfl rfl rfl rfl ?_ | refine JL.gstep rfl rfl rfl (y_loadN hT rfl rfl rfl (RdN.rowAll (by (repeat (first | exact Pick.head | apply Pick.tail | apply Pick.app)))) hcl) rfl rfl ?_)
      all_goals (first | refine JL.gskip rfl rfl rfl rfl rfl rfl ?_ | refine JL.gskipU rfl rfl rfl rfl rfl ?_ | (refine JL.gloud rfl rfl rfl (l_callF e47 rfl rfl (hcs ▸ hce ▸ hbs ▸ same_spec E q r p3 p4 p1 p2 c3 c4 c1 c2 _ hq hr (hs3.inl.kept (by (repeat (first | exact Pick.head | apply Pick.tail | apply Pick.app)))) (hs4.inl.kept (by (repeat (first | exact Pick.head | apply Pick.tail | apply Pick.app)))) ((((h1.cons _).cons _).cons _).cons _) ((((h2.cons _).cons _).cons _).cons _)) ?_); rintro _ _ ⟨rfl, rfl⟩))
      all_goals (first | refine JL.gskip rfl rfl rfl rfl rfl rfl ?_ | refine JL.gskipU rfl rfl rfl rfl rfl ?_ | refine JL.gstep rfl rfl rfl (y_not rfl) rfl rfl ?_)
      all_goals (refine JL.step (y_pick rfl rfl rfl) rfl rfl rfl ?_)
      all_goals refine JL.nil ?_
      all_goals refine JE.then_normal ?_
      all_goals
        first | apply J.cond_dec rfl | apply J.cond rfl
        case' ht =>
          intro h
          try (first | (exfalso; omega) | (cases h; done) | (exfalso; simp at h; done) | subst h)
          all_goals
            refine J.seq ?_
            refine J.region ?_
            refine JL.step (y_assign rfl) rfl rfl rfl ?_
            refine JL.nil ?_
            refine JE.then_normal ?_
            refine J.ret ?_
            refine JE.then_ret ?_
            refine JE.ret1 (.inl rfl) rfl rfl (by (first | exact RV.tmp rfl | exact RV.cell1 hT rfl rfl rfl (by (exact Rd1.row (by (repeat (first | exact Pick.head | apply Pick.tail | apply Pick.app))) (by rfl))) | exact RV.cellN hT rfl rfl rfl (by (first | exact RdN.rowAll (by (repeat (first | exact Pick.head | apply Pick.tail | apply Pick.app))) | exact RdN.own (by (repeat (first | exact Pick.head | apply Pick.tail | apply Pick.app))))) (by (first | rfl | assumption | (simp; done) | omega)))) ?_
            first
            | (have zz := hbt
               have hbt2 : bt = false := by simpa using h
               have hno : chkB r = false := by
                 unfold chkB
                 have : r.texts.all textB = false := by
                   rw [Bool.eq_false_iff]
                   intro q
                   have := List.all_eq_true.1 q t (List.mem_of_getElem? hh)
                   rw [hbt, hbt2] at this
                   cases this
                 rw [this]
                 rfl
               rw [hno]
               exact ⟨rfl, fun w h => h.sup (by (repeat (first | exact Sup.refl | apply Sup.cons (by (repeat (first | exact Pick.head | apply Pick.tail | apply Pick.app))) | apply Sup.app | apply Sup.skip | apply Sup.skips)))⟩)
            | (have hv : chkB r = (decide (e0 = 0) && decide (q = r)) := by
                 unfold chkB
                 rw [hall2, hqq, he0, Bool.true_and]
               rw [hv]
               refine ⟨?_, fun w h => h.sup (by (repeat (first | exact Sup.refl | apply Sup.cons (by (repeat (first | exact Pick.head | apply Pick.tail | apply Pick.app))) | apply Sup.app | apply Sup.skip | apply Sup.skips)))⟩
               by_cases hz : e0 = 0
               · rw [decide_eq_false (not_not_intro hz)] at hbe
                 rw [decide_eq_true hz, Bool.true_and, hbs]
                 first | rfl | (subst hbe; first | rfl | (simp at h; done) | (cases bs <;> first | rfl | (simp at h; done))) | (cases bs <;> first | rfl | (simp at h; done)) | (simp_all; done)
               · rw [decide_eq_true hz] at hbe
                 rw [decide_eq_false hz, Bool.false_and]
                 first | rfl | (subst hbe; first | rfl | (simp at h; done)) | (simp_all; done))
        case' hf =>
          intro h
          try (first | (exfalso; omega) | (cases h; done) | (exfalso; simp at h; done) | subst h)
          all_goals
            refine J.skip ?_
      all_goals refine JE.then_normal ?_
      all_goals
        refine J.seq ?_
        refine J.region ?_
        refine JL.step (y_assign rfl) rfl rfl rfl ?_
        refine JL.nil ?_
        refine JE.then_normal ?_
        refine J.ret ?_
        refine JE.ret1 (.inl rfl) rfl rfl (by (first | exact RV.tmp rfl | exact RV.cell1 hT rfl rfl rfl (by (exact Rd1.row (by (repeat (first | exact Pick.head | apply Pick.tail | apply Pick.app))) (by rfl))) | exact RV.cellN hT rfl rfl rfl (by (first | exact RdN.rowAll (by (repeat (first | exact Pick.head | apply Pick.tail | apply Pick.app))) | exact RdN.own (by (repeat (first | exact Pick.head | apply Pick.tail | apply Pick.app))))) (by (first | rfl | assumption | (simp; done) | omega)))) ?_
        first
        | (have zz := hbt
           have hbt2 : bt = false := by simpa using h
           have hno : chkB r = false := by
             unfold chkB
             have : r.texts.all textB = false := by
               rw [Bool.eq_false_iff]
               intro q
               have := List.all_eq_true.1 q t (List.mem_of_getElem? hh)
               rw [hbt, hbt2] at this
               cases this
             rw [this]
             rfl
           rw [hno]
           exact ⟨rfl, fun w h => h.sup (by (repeat (first | exact Sup.refl | apply Sup.cons (by (repeat (first | exact Pick.head | apply Pick.tail | apply Pick.app))) | apply Sup.app | apply Sup.skip | apply Sup.skips)))⟩)
        | (have hv : chkB r = (decide (e0 = 0) && decide (q = r)) := by
             unfold chkB
             rw [hall2, hqq, he0, Bool.true_and]
           rw [hv]
           refine ⟨?_, fun w h => h.sup (by (repeat (first | exact Sup.refl | apply Sup.cons (by (repeat (first | exact Pick.head | apply Pick.tail | apply Pick.app))) | apply Sup.app | apply Sup.skip | apply Sup.skips)))⟩
           by_cases hz : e0 = 0
           · rw [decide_eq_false (not_not_intro hz)] at hbe
             rw [decide_eq_true hz, Bool.true_and, hbs]
             first | rfl | (subst hbe; first | rfl | (simp at h; done) | (cases bs <;> first | rfl | (simp at h; done))) | (cases bs <;> first | rfl | (simp at h; done)) | (simp_all; done)
           · rw [decide_eq_true hz] at hbe
             rw [decide_eq_false hz, Bool.false_and]
             first | rfl | (subst hbe; first | rfl | (simp at h; done)) | (simp_all; done))
  all_goals refine JE.then_normal ?_
  all_goals
    refine J.seq ?_
    refine J.block ?_
    refine J.seq ?_
    have hlt : i < r.texts.length := by omega
    obtain ⟨t, hh⟩ : ∃ t, r.texts[i]? = some t := ⟨r.texts[i]'(by omega), List.getElem?_eq_getElem _⟩
    obtain ⟨htB, htL⟩ := hr.tb t (List.mem_of_getElem? hh)
    obtain ⟨g2, o2, rfl, hrd⟩ := h2.addr (by omega)
    obtain ⟨bt, hbt⟩ : ∃ b, textB t = b := ⟨_, rfl⟩
    refine J.region ?_
    refine JL.step (y_indexAddr_slice hT rfl rfl rfl rfl rfl (by (first | omega | exact Nat.le_of_ble_eq_true rfl | decide | (simp; omega))) (by (first | omega | exact Nat.le_of_ble_eq_true rfl | decide | (simp; omega)))) rfl rfl rfl ?_
    refine JL.step (y_load1 hT rfl rfl rfl (Rd1.elem ((hrd []).cons _) (strs_at hh))) rfl rfl rfl ?_
    refine JL.step (y_assign rfl) rfl rfl rfl ?_
    refine JL.nil ?_
    refine JE.then_normal ?_
    refine J.seq ?_
    refine J.region ?_
    refine JL.step (y_move rfl) rfl rfl rfl ?_
    refine JL.loud rfl (l_callF e27 rfl rfl (hbt ▸ text_spec E t _ htB (by omega)) ?_)
    rintro _ _ ⟨rfl, rfl⟩
    refine JL.step (y_not rfl) rfl rfl rfl ?_
    refine JL.nil ?_
    refine JE.then_normal ?_
    first | apply J.cond_dec rfl | apply J.cond rfl
    case' ht =>
      intro h
      try (first | (exfalso; omega) | (cases h; done) | (exfalso; simp at h; done) | subst h)
      all_goals
        refine J.seq ?_
        refine J.region ?_
        refine JL.step (y_assign rfl) rfl rfl rfl ?_
        refine JL.nil ?_
        refine JE.then_normal ?_
        refine J.ret ?_
        refine JE.block_ret ?_
        refine JE.then_ret ?_
        refine JE.then_ret ?_
        refine JE.block_ret ?_
        refine JE.then_ret ?_
        refine JE.ret1 (.inl rfl) rfl rfl (by (first | exact RV.tmp rfl | exact RV.cell1 hT rfl rfl rfl (by (exact Rd1.row (by (repeat (first | exact Pick.head | apply Pick.tail | apply Pick.app))) (by rfl))) | exact RV.cellN hT rfl rfl rfl (by (first | exact RdN.rowAll (by (repeat (first | exact Pick.head | apply Pick.tail | apply Pick.app))) | exact RdN.own (by (repeat (first | exact Pick.head | apply Pick.tail | apply Pick.app))))) (by (first | rfl | assumption | (simp; done) | omega)))) ?_
        first
        | (have zz := hbt
           have hbt2 : bt = false := by simpa using h
           have hno : chkB r = false := by
             unfold chkB
             have : r.texts.all textB = false := by
               rw [Bool.eq_false_iff]
               intro q
               have := List.all_eq_true.1 q t (List.mem_of_getElem? hh)
               rw [hbt, hbt2] at this
               cases this
             rw [this]
             rfl
           rw [hno]
           exact ⟨rfl, fun w h => h.sup (by (repeat (first | exact Sup.refl | apply Sup.cons (by (repeat (first | exact Pick.head | apply Pick.tail | apply Pick.app))) | apply Sup.app | apply Sup.skip | apply Sup.skips)))⟩)
        | (have hv : chkB r = (decide (e0 = 0) && decide (q = r)) := by
             unfold chkB
             rw [hall2, hqq, he0, Bool.true_and]
           rw [hv]
           refine ⟨?_, fun w h => h.sup (by (repeat (first | exact Sup.refl | apply Sup.cons (by (repeat (first | exact Pick.head | apply Pick.tail | apply Pick.app))) | apply Sup.app | apply Sup.skip | apply Sup.skips)))⟩
           by_cases hz : e0 = 0
           · rw [decide_eq_false (not_not_intro hz)] at hbe
             rw [decide_eq_true hz, Bool.true_and, hbs]
             first | rfl | (subst hbe; first | rfl | (simp at h; done) | (cases bs <;> first | rfl | (simp at h; done))) | (cases bs <;> first | rfl | (simp at h; done)) | (simp_all; done)
           · rw [decide_eq_true hz] at hbe
             rw [decide_eq_false hz, Bool.false_and]
             first | rfl | (subst hbe; first | rfl | (simp at h; done)) | (simp_all; done))
    case' hf =>
      intro h
      try (first | (exfalso; omega) | (cases h; done) | (exfalso; simp at h; done) | subst h)
      all_goals
        refine J.skip ?_
    all_goals refine JE.block_normal ?_
    all_goals refine JE.then_normal ?_
    all_goals
      refine J.region ?_
      refine JL.step (y_add rfl rfl (by (first | exact wrap_i64 (by omega) (by omega) | rfl))) rfl rfl rfl ?_
      refine JL.step (y_move rfl) rfl rfl rfl ?_
      refine JL.nil ?_
  all_goals
    have hbt2 : textB t = true := hbt.trans (by simpa using h)
    exact JE.round (s := i) (i + 1) ⟨by omega, fun y hy => by
      rw [List.take_add_one, hh, Option.toList_some, List.mem_append, List.mem_singleton] at hy
      rcases hy with hy | rfl
      · exact hall y hy
      · exact hbt2⟩ ⟨rfl, rfl, rfl, rfl, trivial⟩ (fun w h => h) (by omega)
/-- A reply's line; its error. -/
def printF (r : RpT) : List Int × Int := if chkB r then (lineR r, 0) else ([], 2)
theorem printP_spec (r : RpT) (p1 : Option Addr) (c1 : Nat) (p2 : Option Addr) (c2 : Nat) (l : List HProp) (hr : RpB r) (hq : RpB (repR (lineR r))) (h1 : InL l p1 r.names.length c1 (strs r.names)) (h2 : InL l p2 r.texts.length c2 (strs r.texts)) (hK : K24 E l) :
    Fc prog E 16 [.agg (rpE r (.slice p1 r.names.length c1) (.slice p2 r.texts.length c2)).toArray].toArray l (fun v l' => v = .tuple #[.string (strOf (printF r).1), .int .i64 (printF r).2] ∧ l' = l) := by
  refine Fc.eqs ?_
  obtain ⟨cs, hcs⟩ : ∃ cs, rpE r (.slice p1 r.names.length c1) (.slice p2 r.texts.length c2) = cs := ⟨_, rfl⟩
  have hcl : cs.length = i36.size := by rw [← hcs]; exact rpE_length hr.key _ _
  rw [hcs]
  obtain ⟨b, hb⟩ : ∃ b, chkB r = b := ⟨_, rfl⟩
  refine Fc.of_body (c := ?codeC) Tryz.func16 ?hb Tryz.ntmps16 ?hl ?_
  case hb => exact rfl
  case hl => exact rfl
  refine J.seq ?_
  refine J.region ?_
  refine JL.loud rfl (l_box (cs := cs) rfl rfl rfl (fun b1 => ?_))
  refine JL.step (y_assign rfl) rfl rfl rfl (JL.step (y_assign rfl) rfl rfl rfl ?_)
  refine JL.nil ?_
  refine JE.then_normal ?_
  refine J.seq ?_
  refine J.seq ?_
  refine J.region ?_
  refine JL.step (y_loadN hT rfl rfl rfl (RdN.rowAll (by (repeat (first | exact Pick.head | apply Pick.tail | apply Pick.app)))) hcl) rfl rfl rfl ?_
  refine JL.loud rfl (l_callF e17 rfl rfl (hb ▸ hcs ▸ check_spec E r p1 c1 p2 c2 _ hr hq (h1.cons _) (h2.cons _) (hK.cons _)) ?_)
  rintro _ _ ⟨rfl, rfl⟩
  refine JL.step (y_assign rfl) rfl rfl rfl ?_
  refine JL.nil ?_
  refine JE.then_normal ?_
  refine J.seq ?_
  rcases b with _ | _
  all_goals
    refine J.region ?_
    refine JL.step (y_move rfl) rfl rfl rfl (JL.step (y_neq rfl rfl) rfl rfl rfl ?_)
    refine JL.nil ?_
  all_goals refine JE.then_normal ?_
  all_goals
    first | apply J.cond_dec rfl | apply J.cond rfl
    case' ht =>
      intro h
      try (first | (exfalso; omega) | (cases h; done) | (exfalso; simp at h; done) | subst h)
      all_goals
        refine J.seq ?_
        refine J.region ?_
        refine JL.step (y_move rfl) rfl rfl rfl (JL.step (y_assign rfl) rfl rfl rfl (JL.step (y_assign rfl) rfl rfl rfl ?_))
        refine JL.nil ?_
        refine JE.then_normal ?_
        refine J.ret ?_
        refine JE.then_ret ?_
        refine JE.ret2 (.inl rfl) rfl rfl (by (first | exact RV.tmp rfl | exact RV.cell1 hT rfl rfl rfl (by (exact Rd1.row (by (repeat (first | exact Pick.head | apply Pick.tail | apply Pick.app))) (by rfl))) | exact RV.cellN hT rfl rfl rfl (by (first | exact RdN.rowAll (by (repeat (first | exact Pick.head | apply Pick.tail | apply Pick.app))) | exact RdN.own (by (repeat (first | exact Pick.head | apply Pick.tail | apply Pick.app))))) (by (first | rfl | assumption | (simp; done) | omega)))) (by (first | exact RV.tmp rfl | exact RV.cell1 hT rfl rfl rfl (by (exact Rd1.row (by (repeat (first | exact Pick.head | apply Pick.tail | apply Pick.app))) (by rfl))) | exact RV.cellN hT rfl rfl rfl (by (first | exact RdN.rowAll (by (repeat (first | exact Pick.head | apply Pick.tail | apply Pick.app))) | exact RdN.own (by (repeat (first | exact Pick.head | apply Pick.tail | apply Pick.app))))) (by (first | rfl | assumption | (simp; done) | omega)))) ?_
        first
        | (have zz : chkB r = false := hb
           have hp : printF r = ([], 2) := by unfold printF; rw [zz]; rfl
           rw [hp, show strOf (([] : List Int), (2 : Int)).1 = ⟨#[]⟩ by unfold strOf; rfl]
           exact ⟨rfl, fun w h => h.sup (by (repeat (first | exact Sup.refl | apply Sup.cons (by (repeat (first | exact Pick.head | apply Pick.tail | apply Pick.app))) | apply Sup.app | apply Sup.skip | apply Sup.skips)))⟩)
        | (have hp : printF r = (lineR r, 0) := by unfold printF; rw [hb]; rfl
           rw [hp]
           exact ⟨rfl, fun w h => h.sup (by (repeat (first | exact Sup.refl | apply Sup.cons (by (repeat (first | exact Pick.head | apply Pick.tail | apply Pick.app))) | apply Sup.app | apply Sup.skip | apply Sup.skips)))⟩)
    case' hf =>
      intro h
      try (first | (exfalso; omega) | (cases h; done) | (exfalso; simp at h; done) | subst h)
      all_goals
        refine J.skip ?_
  all_goals refine JE.then_normal ?_
  all_goals
    refine J.seq ?_
    refine J.region ?_
    refine JL.step (y_loadN hT rfl rfl rfl (RdN.rowAll (by (repeat (first | exact Pick.head | apply Pick.tail | apply Pick.app)))) hcl) rfl rfl rfl ?_
    refine JL.loud rfl (l_callF e46 rfl rfl (hcs ▸ printR_spec E r p1 c1 p2 c2 _ hr (h1.cons _) (h2.cons _) (hK.cons _)) ?_)
    rintro _ _ ⟨rfl, rfl⟩
    refine JL.step (y_assign rfl) rfl rfl rfl (JL.step (y_assign rfl) rfl rfl rfl ?_)
    refine JL.nil ?_
    refine JE.then_normal ?_
    refine J.ret ?_
    refine JE.ret2 (.inl rfl) rfl rfl (by (first | exact RV.tmp rfl | exact RV.cell1 hT rfl rfl rfl (by (exact Rd1.row (by (repeat (first | exact Pick.head | apply Pick.tail | apply Pick.app))) (by rfl))) | exact RV.cellN hT rfl rfl rfl (by (first | exact RdN.rowAll (by (repeat (first | exact Pick.head | apply Pick.tail | apply Pick.app))) | exact RdN.own (by (repeat (first | exact Pick.head | apply Pick.tail | apply Pick.app))))) (by (first | rfl | assumption | (simp; done) | omega)))) (by (first | exact RV.tmp rfl | exact RV.cell1 hT rfl rfl rfl (by (exact Rd1.row (by (repeat (first | exact Pick.head | apply Pick.tail | apply Pick.app))) (by rfl))) | exact RV.cellN hT rfl rfl rfl (by (first | exact RdN.rowAll (by (repeat (first | exact Pick.head | apply Pick.tail | apply Pick.app))) | exact RdN.own (by (repeat (first | exact Pick.head | apply Pick.tail | apply Pick.app))))) (by (first | rfl | assumption | (simp; done) | omega)))) ?_
    first
    | (have zz : chkB r = false := hb
       have hp : printF r = ([], 2) := by unfold printF; rw [zz]; rfl
       rw [hp, show strOf (([] : List Int), (2 : Int)).1 = ⟨#[]⟩ by unfold strOf; rfl]
       exact ⟨rfl, fun w h => h.sup (by (repeat (first | exact Sup.refl | apply Sup.cons (by (repeat (first | exact Pick.head | apply Pick.tail | apply Pick.app))) | apply Sup.app | apply Sup.skip | apply Sup.skips)))⟩)
    | (have hp : printF r = (lineR r, 0) := by unfold printF; rw [hb]; rfl
       rw [hp]
       exact ⟨rfl, fun w h => h.sup (by (repeat (first | exact Sup.refl | apply Sup.cons (by (repeat (first | exact Pick.head | apply Pick.tail | apply Pick.app))) | apply Sup.app | apply Sup.skip | apply Sup.skips)))⟩)
end
end
section
open Go Go.SL
section
/-- What may stand in a reply beside what it tells. -/
def kB (r : RpT) : Bool := decide (r.key = zer32)
def nB (r : RpT) : Bool := decide (r.names = [])
def tB (r : RpT) : Bool := decide (r.texts = [])
def sB (r : RpT) : Bool := decide (r.seq = 0)
def cB (r : RpT) : Bool := decide (r.out = 0) && decide (r.acked = 0) && decide (r.inn = 0)
def eB (r : RpT) : Bool := decide (r.err = 0)
def okN (n : Int) : Bool := decide (0 ≤ n) && decide (n ≤ 999999999)
/-- May a reply be? -/
def rightB (r : RpT) : Bool :=
  if r.kind = 1 then nB r && tB r && sB r && cB r && eB r else
  if r.kind = 2 ∨ r.kind = 6 then kB r && nB r && tB r && sB r && cB r && eB r else
  if r.kind = 3 then r.names.all nameB && decide r.names.Nodup && (kB r && tB r && sB r && cB r && eB r && decide (r.names.length ≤ 3)) else
  if r.kind = 4 then kB r && nB r && tB r && cB r && eB r && okN r.seq else
  if r.kind = 5 then r.texts.all textB && (kB r && nB r && sB r && cB r && eB r && decide (r.texts.length ≤ 6)) else
  if r.kind = 7 then okN r.out && okN r.acked && okN r.inn && (kB r && nB r && tB r && sB r && eB r) else
  if r.kind = 8 then kB r && nB r && tB r && sB r && cB r && (wordF r.err).2 else false
theorem wordF_mem {e : Int} (h : (wordF e).2 = true) : (e, (wordF e).1) ∈ errL := by
  unfold wordF at h ⊢
  generalize errL = L at h ⊢
  induction L with
  | nil => cases h
  | cons p L ih =>
    obtain ⟨k, w⟩ := p
    unfold wordG at h ⊢
    split
    · rename_i q
      rw [q]
      exact List.mem_cons_self ..
    · rename_i q
      rw [if_neg q] at h
      exact List.mem_cons_of_mem _ (ih h)
theorem name_blank {w : List Int} (h : nameB w = true) : 32 ∉ w := by
  intro q
  unfold nameB at h
  rw [Bool.and_eq_true, Bool.and_eq_true] at h
  have := List.all_eq_true.1 h.1.1 32 q
  cases this
theorem name_len {w : List Int} (h : nameB w = true) : w.length ≤ 16 := by
  unfold nameB at h
  rw [Bool.and_eq_true] at h
  exact of_decide_eq_true h.2
theorem dig_blank (u : Nat) : 32 ∉ dig u := fun q => by have := dig_byte u 32 q; omega
theorem numT_blank {z : Int} (h : 0 ≤ z) : 32 ∉ numT z := by
  rw [show z = (z.toNat : Int) by omega, numT_nat]
  exact dig_blank _
theorem numB_ne {w : List Int} (h : numB w = true) : w ≠ [] := by rw [(numB_iff.1 h).1]; exact dig_ne _
theorem num_numT {z : Int} (h : okN z = true) : numB (numT z) = true ∧ (valD (numT z) : Int) = z ∧ (numT z).length ≤ 9 := by
  unfold okN at h
  rw [Bool.and_eq_true] at h
  have h1 := of_decide_eq_true h.1
  have h2 := of_decide_eq_true h.2
  have e : numT z = dig z.toNat := by rw [show z = (z.toNat : Int) by omega, numT_nat]; rfl
  rw [e]
  exact ⟨numB_dig (by omega), by rw [valD_dig]; omega, dig_le (by omega) (by decide)⟩
theorem okN_val {w : List Int} (h : numB w = true) : okN (valD w : Int) = true := by
  have := numB_lt h
  unfold okN
  rw [decide_eq_true (by omega), decide_eq_true (by omega)]
  rfl
theorem app_mem {w : List Int} (r : List Int) : 32 ∈ w ++ 32 :: r := List.mem_append_right _ (List.mem_cons_self ..)
theorem app_drop (w r : List Int) : (w ++ 32 :: r).drop (w.length + 1) = r := by
  rw [← List.drop_drop, List.drop_left]
  rfl
theorem split_join : ∀ (w : List Int) (ws : List (List Int)), (∀ x ∈ w :: ws, 32 ∉ x) → splitW (joinW (w :: ws)) = w :: ws
  | w, [], h => by rw [joinW_one]; exact splitW_none (h w (List.mem_cons_self ..))
  | w, x :: ws, h => by
    have hw := h w (List.mem_cons_self ..)
    rw [joinW_two, splitW_some (app_mem _), headW_app _ hw, app_drop, split_join x ws fun y hy => h y (List.mem_cons_of_mem _ hy)]
theorem join_split (xs : List Int) : joinW (splitW xs) = xs := by
  induction hn : xs.length using Nat.strongRecOn generalizing xs with
  | _ n ih =>
    by_cases h : 32 ∈ xs
    · rw [splitW_some h]
      obtain ⟨w, ls, e⟩ := splitW_cons (xs.drop ((headW xs).length + 1))
      have hlt := headW_lt.2 h
      have h1 := ih (xs.drop ((headW xs).length + 1)).length (by rw [List.length_drop]; omega) _ rfl
      rw [e] at h1 ⊢
      rw [joinW_two, h1, ← drop_blank (headW_at h)]
      conv => lhs; rw [← headW_take xs]
      have e2 : (xs.take (headW xs).length).length = (headW xs).length := by rw [headW_take]
      rw [e2, List.take_append_drop]
    · rw [splitW_none h, joinW_one]
theorem whole_of {xs : List Int} (h : xs.drop ((headW xs).length + 1) ≠ []) : xs = headW xs ++ 32 :: xs.drop ((headW xs).length + 1) ∧ 32 ∈ xs := by
  have hm : 32 ∈ xs := by
    refine Decidable.of_not_not fun q => h ?_
    rw [headW_all q]
    exact List.drop_eq_nil_of_le (by omega)
  refine ⟨?_, hm⟩
  rw [← drop_blank (headW_at hm)]
  conv => rhs; lhs; rw [← headW_take xs]
  have e2 : (xs.take (headW xs).length).length = (headW xs).length := by rw [headW_take]
  rw [← e2, e2, List.take_append_drop]
/-! Quoted texts. -/
theorem unqL_some : ∀ (rs acc : List Int) (esc : Bool) (t left : List Int), unqL esc acc rs = some (t, left) →
    ∃ u, t = acc ++ u ∧ (if esc then ∃ c v, (c = 34 ∨ c = 92) ∧ u = c :: v ∧ rs = c :: (v.flatMap qC ++ 34 :: left) else rs = u.flatMap qC ++ 34 :: left) := by
  intro rs
  induction rs with
  | nil => intro acc esc t left h; cases esc <;> cases h
  | cons r rs ih =>
    intro acc esc t left h
    cases ho : oddB r with
    | true => cases esc <;> simp [unqL, ho] at h
    | false =>
      cases esc with
      | true =>
        by_cases h2 : r = 34 ∨ r = 92
        · rw [unqL_t ho h2] at h
          obtain ⟨u, rfl, hu⟩ := ih _ _ _ _ h
          rw [if_neg (by decide)] at hu
          refine ⟨r :: u, by simp, ?_⟩
          rw [if_pos rfl]
          exact ⟨r, u, h2, rfl, by rw [hu]⟩
        · simp [unqL, ho, h2] at h
      | false =>
        rw [unqL_f ho] at h
        show ∃ u, t = acc ++ u ∧ r :: rs = u.flatMap qC ++ 34 :: left
        split at h
        · rename_i h92
          obtain ⟨u, rfl, hu⟩ := ih _ _ _ _ h
          rw [if_pos rfl] at hu
          obtain ⟨c, v, hc, rfl, rfl⟩ := hu
          refine ⟨c :: v, rfl, ?_⟩
          rw [List.flatMap_cons, show qC c = [92, c] by unfold qC; rw [if_pos hc], h92]
          rfl
        · split at h
          · rename_i h34
            cases h
            exact ⟨[], by simp, by rw [h34]; rfl⟩
          · rename_i h92 h34
            obtain ⟨u, rfl, hu⟩ := ih _ _ _ _ h
            rw [if_neg (by decide)] at hu
            refine ⟨r :: u, by simp, ?_⟩
            rw [List.flatMap_cons, show qC r = [r] by unfold qC; rw [if_neg (by omega)], hu]
            rfl
theorem unqF_some {xs t left : List Int} (h : unqF xs = some (t, left)) : xs = quoT t ++ left := by
  cases xs with
  | nil => cases h
  | cons x rs =>
    have h : (if x = 34 then unqL false [] rs else none) = some (t, left) := h
    split at h
    · rename_i hx
      obtain ⟨u, rfl, hu⟩ := unqL_some _ _ _ _ _ h
      rw [if_neg (by decide)] at hu
      rw [hx, hu]
      unfold quoT
      simp
    · cases h
theorem unqL_quo : ∀ (t acc left : List Int), t.any oddB = false → unqL false acc (t.flatMap qC ++ 34 :: left) = some (acc ++ t, left) := by
  intro t
  induction t with
  | nil =>
    intro acc left _
    show unqL false acc (34 :: left) = _
    rw [unqL_f (by decide), if_neg (by decide), if_pos rfl, List.append_nil]
  | cons r t ih =>
    intro acc left h
    rw [List.any_cons, Bool.or_eq_false_iff] at h
    rw [List.flatMap_cons]
    have := ih (acc ++ [r]) left h.2
    rw [List.append_assoc] at this
    by_cases hr : r = 34 ∨ r = 92
    · rw [show qC r = [92, r] by unfold qC; rw [if_pos hr]]
      show unqL false acc (92 :: r :: (t.flatMap qC ++ 34 :: left)) = _
      rw [unqL_f (by decide), if_pos rfl, unqL_t h.1 hr, this]
      rfl
    · rw [show qC r = [r] by unfold qC; rw [if_neg hr]]
      show unqL false acc (r :: (t.flatMap qC ++ 34 :: left)) = _
      rw [unqL_f h.1, if_neg (by omega), if_neg (by omega), this]
      rfl
theorem text_any {t : List Int} (h : textB t = true) : t.any oddB = false ∧ t.length ≤ 48 := by
  unfold textB at h
  rw [Bool.and_eq_true, Bool.and_eq_true] at h
  exact ⟨oddI_neg.1 (of_decide_eq_true h.2), of_decide_eq_true h.1.2⟩
theorem unqF_quo {t : List Int} (left : List Int) (h : textB t = true) : unqF (quoT t ++ left) = some (t, left) := by
  unfold quoT
  show (if (34 : Int) = 34 then unqL false [] (t.flatMap qC ++ [34] ++ left) else none) = _
  rw [if_pos rfl, List.append_assoc]
  show unqL false [] (t.flatMap qC ++ 34 :: left) = _
  rw [unqL_quo t [] left (text_any h).1]
  rfl
def behW (ts : List (List Int)) : List Int := ts.flatMap fun t => 32 :: quoT t
def allW (i : Nat) (ts : List (List Int)) : List Int := if 0 < i then behW ts else joinW (ts.map quoT)
theorem joinW_beh (w : List Int) (ts : List (List Int)) : joinW (w :: ts.map quoT) = w ++ behW ts := by
  show w ++ (ts.map quoT).flatMap _ = _
  congr 1
  unfold behW
  rw [List.flatMap_map]
theorem allW_cons (i : Nat) (t : List Int) (ts : List (List Int)) : allW i (t :: ts) = (if 0 < i then [32] else []) ++ (quoT t ++ behW ts) := by
  unfold allW
  split
  · rfl
  · rw [List.map_cons, joinW_beh]; rfl
theorem inbL_some : ∀ (n i : Nat) (rest : List Int) (acc ts : List (List Int)), inbL n i rest acc = some ts → ∃ us, ts = acc ++ us ∧ us.length = n ∧ us.all textB = true ∧ rest = allW i us := by
  intro n
  induction n with
  | zero =>
    intro i rest acc ts h
    unfold inbL at h
    split at h
    · rename_i hr
      cases h
      exact ⟨[], by simp, rfl, rfl, by rw [hr]; unfold allW; split <;> rfl⟩
    · cases h
  | succ n ih =>
    intro i rest acc ts h
    unfold inbL at h
    split at h
    · cases h
    · rename_i h0
      split at h
      · cases h
      · rename_i t left hq
        split at h
        · rename_i ht
          obtain ⟨us, rfl, h1, h2, h3⟩ := ih _ _ _ _ h
          have h4 := unqF_some hq
          refine ⟨t :: us, by simp, by rw [List.length_cons, h1], by rw [List.all_cons, ht, h2]; rfl, ?_⟩
          rw [allW_cons]
          have h5 : left = behW us := by rw [h3]; unfold allW; rw [if_pos (by omega)]
          rw [← h5, ← h4]
          by_cases hi : 0 < i
          · rw [if_pos hi, if_pos hi]
            have h6 : rest[0]? = some 32 := Decidable.of_not_not fun q => h0 ⟨hi, q⟩
            cases rest with
            | nil => cases h6
            | cons x r => cases h6; rfl
          · rw [if_neg hi, if_neg hi]; rfl
        · cases h
theorem inbL_all : ∀ (us : List (List Int)) (i : Nat) (acc : List (List Int)), us.all textB = true → inbL us.length i (allW i us) acc = some (acc ++ us) := by
  intro us
  induction us with
  | nil =>
    intro i acc _
    have : allW i [] = [] := by unfold allW; split <;> rfl
    rw [this]
    show (if ([] : List Int) = [] then _ else _) = _
    rw [if_pos rfl, List.append_nil]
  | cons t us ih =>
    intro i acc h
    rw [List.all_cons, Bool.and_eq_true] at h
    rw [List.length_cons, allW_cons]
    unfold inbL
    have hb : behW us = allW (i + 1) us := by unfold allW; rw [if_pos (by omega)]
    by_cases hi : 0 < i
    · rw [if_pos hi, if_neg (by simp), if_pos hi]
      show (match unqF (quoT t ++ behW us) with | none => none | some (t, left) => _) = _
      rw [unqF_quo _ h.1]
      simp only
      rw [if_pos h.1, hb, ih (i + 1) (acc ++ [t]) h.2, List.append_assoc]
      rfl
    · rw [if_neg hi, if_neg (fun q => hi q.1), if_neg hi, List.nil_append, unqF_quo _ h.1]
      simp only
      rw [if_pos h.1, hb, ih (i + 1) (acc ++ [t]) h.2, List.append_assoc]
      rfl
theorem inbox_some {xs : List Int} {ts : List (List Int)} (h : inboxF xs = some ts) : xs = joinW (numT ts.length :: ts.map quoT) ∧ ts.length ≤ 6 ∧ ts.all textB = true ∧ xs ≠ [] := by
  unfold inboxF at h
  split at h
  · rename_i hc
    obtain ⟨h1, h2, h3⟩ := hc
    obtain ⟨us, hus, e1, e2, e3⟩ := inbL_some _ _ _ _ _ h
    rw [List.nil_append] at hus
    subst hus
    have hw : numT ((ts.length : Nat) : Int) = headW xs := by rw [e1]; exact numT_dig h1
    have hne : xs ≠ [] := fun q => by rw [q] at h1; exact numB_ne h1 rfl
    refine ⟨?_, by omega, e2, hne⟩
    rw [joinW_beh, hw]
    by_cases h0 : 0 < valD (headW xs)
    · have hm := h3.2 h0
      cases ts with
      | nil => rw [List.length_nil] at e1; omega
      | cons u us =>
        have e4 := (whole_of (xs := xs) (by rw [e3, allW_cons, if_neg (by omega)]; unfold quoT; simp)).1
        rw [e3, allW_cons, if_neg (by omega)] at e4
        rw [e4, headW_app _ (headW_none xs)]
        show headW xs ++ 32 :: ([] ++ (quoT u ++ behW us)) = headW xs ++ (32 :: quoT u ++ behW us)
        rfl
    · have hu : ts = [] := List.length_eq_zero_iff.1 (by omega)
      have hm : 32 ∉ xs := fun q => h0 (h3.1 q)
      rw [hu, headW_all hm]
      unfold behW
      rw [List.flatMap_nil, List.append_nil]
  · cases h
theorem inbox_all {ts : List (List Int)} (h6 : ts.length ≤ 6) (h : ts.all textB = true) : inboxF (joinW (numT ts.length :: ts.map quoT)) = some ts := by
  have hn := num_numT (z := ts.length) (by unfold okN; rw [decide_eq_true (by omega), decide_eq_true (by omega)]; rfl)
  have hb := numT_blank (z := ts.length) (by omega)
  have hv : valD (numT ts.length) = ts.length := by omega
  rw [joinW_beh]
  cases ts with
  | nil =>
    show inboxF (numT 0 ++ []) = some []
    rw [List.append_nil]
    unfold inboxF
    have hb : 32 ∉ numT (0 : Int) := hb
    have hn1 : numB (numT (0 : Int)) = true := hn.1
    have hv : valD (numT (0 : Int)) = 0 := hv
    rw [headW_all hb, if_pos ⟨hn1, by omega, ⟨fun q => absurd q hb, fun q => by omega⟩⟩, hv, List.drop_eq_nil_of_le (by omega)]
    rfl
  | cons t ts =>
    have hbe : behW (t :: ts) = 32 :: (quoT t ++ behW ts) := rfl
    rw [hbe]
    unfold inboxF
    rw [headW_app _ hb, if_pos ⟨hn.1, by omega, ⟨fun _ => by rw [hv]; simp, fun _ => app_mem _⟩⟩, hv, app_drop]
    have := inbL_all (t :: ts) 0 [] h
    rw [allW_cons, if_neg (by omega)] at this
    exact this
/-! Contacts. -/
theorem con_some {xs : List Int} {ns : List (List Int)} (h : conF xs = some ns) : xs = joinW (numT ns.length :: ns) ∧ ns.length ≤ 3 ∧ ns.all nameB = true ∧ ns.Nodup ∧ xs ≠ [] := by
  obtain ⟨w, ls, e⟩ := splitW_cons xs
  unfold conF at h
  rw [e] at h
  simp only [List.headD_cons, List.drop_succ_cons, List.drop_zero] at h
  split at h
  · rename_i hc
    obtain ⟨h1, h2, h3, h4, h5⟩ := hc
    cases h
    refine ⟨?_, by omega, List.all_eq_true.2 h4, h5, fun q => ?_⟩
    · rw [← h2, numT_dig h1, ← e, join_split]
    · rw [q, splitW_none (by simp)] at e
      cases e
      exact numB_ne h1 rfl
  · cases h
theorem con_all {ns : List (List Int)} (h3 : ns.length ≤ 3) (h : ns.all nameB = true) (hd : ns.Nodup) : conF (joinW (numT ns.length :: ns)) = some ns := by
  have hn := num_numT (z := ns.length) (by unfold okN; rw [decide_eq_true (by omega), decide_eq_true (by omega)]; rfl)
  unfold conF
  rw [split_join _ _ (fun x hx => by
    rcases List.mem_cons.1 hx with rfl | hx
    · exact numT_blank (by omega)
    · exact name_blank (List.all_eq_true.1 h x hx))]
  simp only [List.headD_cons, List.drop_succ_cons, List.drop_zero]
  rw [if_pos ⟨hn.1, by omega, by omega, List.all_eq_true.1 h, hd⟩]
theorem flat_len {α : Type} (f : α → List Int) (m : Nat) (ts : List α) (h : ∀ t ∈ ts, (f t).length ≤ m) : (ts.flatMap f).length ≤ ts.length * m := by
  induction ts with
  | nil => simp
  | cons t ts ih =>
    rw [List.flatMap_cons, List.length_append, List.length_cons, Nat.succ_mul]
    have := h t (List.mem_cons_self ..)
    have := ih fun x hx => h x (List.mem_cons_of_mem _ hx)
    omega
/-! A reply that is read may be, and has that line. -/
theorem repF_line {xs : List Int} {r : RpT} (h : repF xs = some r) : rightB r = true ∧ lineR r = xs ∧ xs.length ≤ 640 := by
  unfold repF at h
  split at h
  · cases h
  · rename_i hl
    obtain ⟨w, hw⟩ : ∃ w, headW xs = w := ⟨_, rfl⟩
    obtain ⟨rest, hr⟩ : ∃ rest, xs.drop ((headW xs).length + 1) = rest := ⟨_, rfl⟩
    have hwh : rest ≠ [] → xs = w ++ 32 :: rest := fun q => by
      have := (whole_of (xs := xs) (by rw [hr]; exact q)).1
      rw [hr, hw] at this
      exact this
    have hno : 32 ∉ xs → xs = w := fun q => by rw [← hw, headW_all q]
    rw [hr, hw] at h
    unfold replyF at h
    split at h
    · rename_i q
      cases h
      have := hno (of_decide_eq_false q.2)
      rw [q.1] at this
      exact ⟨rfl, by rw [this]; rfl, by omega⟩
    · split at h
      · rename_i q
        cases h
        have := hno (of_decide_eq_false q.2)
        rw [q.1] at this
        exact ⟨rfl, by rw [this]; rfl, by omega⟩
      · split at h
        · rename_i q
          split at h
          · rename_i hk
            cases h
            have hne : rest ≠ [] := fun z => by rw [z] at hk; cases hk
            refine ⟨rfl, ?_, by omega⟩
            show joinW [wMe, hexT (keyV rest)] = xs
            rw [hexT_keyV hk, joinW_two, joinW_one, hwh hne, q]
          · cases h
        · split at h
          · rename_i q
            cases hc : conF rest with
            | none => rw [hc] at h; cases h
            | some ns =>
              rw [hc] at h
              cases h
              obtain ⟨e1, e2, e3, e4, e5⟩ := con_some hc
              refine ⟨?_, ?_, by omega⟩
              · show (ns.all nameB && decide ns.Nodup && (true && true && true && true && true && decide (ns.length ≤ 3))) = true
                rw [e3, decide_eq_true e4, decide_eq_true e2]
                rfl
              · show joinW (wContacts :: numT ns.length :: ns) = xs
                rw [joinW_two, ← e1, hwh e5, q]
          · split at h
            · rename_i q
              split at h
              · rename_i hn
                cases h
                refine ⟨?_, ?_, by omega⟩
                · show (true && true && true && true && true && okN (valD rest : Int)) = true
                  rw [okN_val hn]
                  rfl
                · show joinW [wQueued, numT (valD rest : Int)] = xs
                  rw [numT_dig hn, joinW_two, joinW_one, hwh (numB_ne hn), q]
              · cases h
            · split at h
              · rename_i q
                cases hc : inboxF rest with
                | none => rw [hc] at h; cases h
                | some ts =>
                  rw [hc] at h
                  cases h
                  obtain ⟨e1, e2, e3, e4⟩ := inbox_some hc
                  refine ⟨?_, ?_, by omega⟩
                  · show (ts.all textB && (true && true && true && true && true && decide (ts.length ≤ 6))) = true
                    rw [e3, decide_eq_true e2]
                    rfl
                  · show joinW (wInbox :: numT ts.length :: ts.map quoT) = xs
                    rw [joinW_two, ← e1, hwh e4, q]
              · split at h
                · rename_i q
                  split at h
                  · rename_i a b c hs
                    split at h
                    · rename_i hn
                      rw [Bool.and_eq_true, Bool.and_eq_true] at hn
                      obtain ⟨⟨n1, n2⟩, n3⟩ := hn
                      cases h
                      have hj := join_split rest
                      rw [hs] at hj
                      have hne : rest ≠ [] := fun z => by
                        rw [z, splitW_none (by simp)] at hs
                        cases hs
                      refine ⟨?_, ?_, by omega⟩
                      · show (okN (valD a : Int) && okN (valD b : Int) && okN (valD c : Int) && (true && true && true && true && true)) = true
                        rw [okN_val n1, okN_val n2, okN_val n3]
                        rfl
                      · show joinW [wStatus, numT (valD a : Int), numT (valD b : Int), numT (valD c : Int)] = xs
                        rw [numT_dig n1, numT_dig n2, numT_dig n3, joinW_two, hj, hwh hne, q]
                    · cases h
                  · cases h
                · split at h
                  · rename_i q
                    split at h
                    · rename_i hn
                      cases h
                      have hwd := word_named hn
                      have hne : rest ≠ [] := fun z => by rw [z] at hn; revert hn; decide
                      refine ⟨?_, ?_, by omega⟩
                      · show (true && true && true && true && true && (wordF (namedF rest).1).2) = true
                        rw [hwd]
                        rfl
                      · show joinW [wError, (wordF (namedF rest).1).1] = xs
                        rw [hwd, joinW_two, joinW_one, hwh hne, q]
                    · cases h
                  · cases h
theorem repF_two {w rest : List Int} (h : 32 ∉ w) (hl : (w ++ 32 :: rest).length ≤ 640) : repF (w ++ 32 :: rest) = replyF w rest true := by
  unfold repF
  rw [if_neg (by omega), headW_app _ h, app_drop, decide_eq_true (app_mem _)]
theorem right_1 {r : RpT} (h : r.kind = 1) (hr : rightB r = true) : r = ⟨1, r.key, [], [], 0, 0, 0, 0, 0⟩ := by
  obtain ⟨k, key, ns, ts, s, o, a, i, e⟩ := r
  obtain rfl : k = 1 := h
  have hr : (nB ⟨1, key, ns, ts, s, o, a, i, e⟩ && tB ⟨1, key, ns, ts, s, o, a, i, e⟩ && sB ⟨1, key, ns, ts, s, o, a, i, e⟩ && cB ⟨1, key, ns, ts, s, o, a, i, e⟩ && eB ⟨1, key, ns, ts, s, o, a, i, e⟩) = true := hr
  simp only [nB, tB, sB, cB, eB, Bool.and_eq_true, decide_eq_true_eq] at hr
  obtain ⟨⟨⟨⟨rfl, rfl⟩, rfl⟩, ⟨rfl, rfl⟩, rfl⟩, rfl⟩ := hr
  rfl
theorem right_26 {r : RpT} (h : r.kind = 2 ∨ r.kind = 6) (hr : rightB r = true) : r = ⟨r.kind, zer32, [], [], 0, 0, 0, 0, 0⟩ := by
  obtain ⟨k, key, ns, ts, s, o, a, i, e⟩ := r
  have hr : (kB ⟨k, key, ns, ts, s, o, a, i, e⟩ && nB ⟨k, key, ns, ts, s, o, a, i, e⟩ && tB ⟨k, key, ns, ts, s, o, a, i, e⟩ && sB ⟨k, key, ns, ts, s, o, a, i, e⟩ && cB ⟨k, key, ns, ts, s, o, a, i, e⟩ && eB ⟨k, key, ns, ts, s, o, a, i, e⟩) = true := by
    rcases h with h | h <;> (obtain rfl := (show k = _ from h); exact hr)
  simp only [kB, nB, tB, sB, cB, eB, Bool.and_eq_true, decide_eq_true_eq] at hr
  obtain ⟨⟨⟨⟨⟨rfl, rfl⟩, rfl⟩, rfl⟩, ⟨rfl, rfl⟩, rfl⟩, rfl⟩ := hr
  rfl
theorem right_3 {r : RpT} (h : r.kind = 3) (hr : rightB r = true) : r = ⟨3, zer32, r.names, [], 0, 0, 0, 0, 0⟩ ∧ r.names.all nameB = true ∧ r.names.Nodup ∧ r.names.length ≤ 3 := by
  obtain ⟨k, key, ns, ts, s, o, a, i, e⟩ := r
  obtain rfl : k = 3 := h
  have hr : (ns.all nameB && decide ns.Nodup && (kB ⟨3, key, ns, ts, s, o, a, i, e⟩ && tB ⟨3, key, ns, ts, s, o, a, i, e⟩ && sB ⟨3, key, ns, ts, s, o, a, i, e⟩ && cB ⟨3, key, ns, ts, s, o, a, i, e⟩ && eB ⟨3, key, ns, ts, s, o, a, i, e⟩ && decide (ns.length ≤ 3))) = true := hr
  simp only [kB, tB, sB, cB, eB, Bool.and_eq_true, decide_eq_true_eq] at hr
  obtain ⟨⟨h1, h2⟩, ⟨⟨⟨⟨rfl, rfl⟩, rfl⟩, ⟨rfl, rfl⟩, rfl⟩, rfl⟩, h3⟩ := hr
  exact ⟨rfl, h1, h2, h3⟩
theorem right_4 {r : RpT} (h : r.kind = 4) (hr : rightB r = true) : r = ⟨4, zer32, [], [], r.seq, 0, 0, 0, 0⟩ ∧ okN r.seq = true := by
  obtain ⟨k, key, ns, ts, s, o, a, i, e⟩ := r
  obtain rfl : k = 4 := h
  have hr : (kB ⟨4, key, ns, ts, s, o, a, i, e⟩ && nB ⟨4, key, ns, ts, s, o, a, i, e⟩ && tB ⟨4, key, ns, ts, s, o, a, i, e⟩ && cB ⟨4, key, ns, ts, s, o, a, i, e⟩ && eB ⟨4, key, ns, ts, s, o, a, i, e⟩ && okN s) = true := hr
  simp only [kB, nB, tB, cB, eB, Bool.and_eq_true, decide_eq_true_eq] at hr
  obtain ⟨⟨⟨⟨⟨rfl, rfl⟩, rfl⟩, ⟨rfl, rfl⟩, rfl⟩, rfl⟩, h3⟩ := hr
  exact ⟨rfl, h3⟩
theorem right_5 {r : RpT} (h : r.kind = 5) (hr : rightB r = true) : r = ⟨5, zer32, [], r.texts, 0, 0, 0, 0, 0⟩ ∧ r.texts.all textB = true ∧ r.texts.length ≤ 6 := by
  obtain ⟨k, key, ns, ts, s, o, a, i, e⟩ := r
  obtain rfl : k = 5 := h
  have hr : (ts.all textB && (kB ⟨5, key, ns, ts, s, o, a, i, e⟩ && nB ⟨5, key, ns, ts, s, o, a, i, e⟩ && sB ⟨5, key, ns, ts, s, o, a, i, e⟩ && cB ⟨5, key, ns, ts, s, o, a, i, e⟩ && eB ⟨5, key, ns, ts, s, o, a, i, e⟩ && decide (ts.length ≤ 6))) = true := hr
  simp only [kB, nB, sB, cB, eB, Bool.and_eq_true, decide_eq_true_eq] at hr
  obtain ⟨h1, ⟨⟨⟨⟨rfl, rfl⟩, rfl⟩, ⟨rfl, rfl⟩, rfl⟩, rfl⟩, h3⟩ := hr
  exact ⟨rfl, h1, h3⟩
theorem right_7 {r : RpT} (h : r.kind = 7) (hr : rightB r = true) : r = ⟨7, zer32, [], [], 0, r.out, r.acked, r.inn, 0⟩ ∧ okN r.out = true ∧ okN r.acked = true ∧ okN r.inn = true := by
  obtain ⟨k, key, ns, ts, s, o, a, i, e⟩ := r
  obtain rfl : k = 7 := h
  have hr : (okN o && okN a && okN i && (kB ⟨7, key, ns, ts, s, o, a, i, e⟩ && nB ⟨7, key, ns, ts, s, o, a, i, e⟩ && tB ⟨7, key, ns, ts, s, o, a, i, e⟩ && sB ⟨7, key, ns, ts, s, o, a, i, e⟩ && eB ⟨7, key, ns, ts, s, o, a, i, e⟩)) = true := hr
  simp only [kB, nB, tB, sB, eB, Bool.and_eq_true, decide_eq_true_eq] at hr
  obtain ⟨⟨⟨h1, h2⟩, h3⟩, ⟨⟨⟨rfl, rfl⟩, rfl⟩, rfl⟩, rfl⟩ := hr
  exact ⟨rfl, h1, h2, h3⟩
theorem right_8 {r : RpT} (h : r.kind = 8) (hr : rightB r = true) : r = ⟨8, zer32, [], [], 0, 0, 0, 0, r.err⟩ ∧ (wordF r.err).2 = true := by
  obtain ⟨k, key, ns, ts, s, o, a, i, e⟩ := r
  obtain rfl : k = 8 := h
  have hr : (kB ⟨8, key, ns, ts, s, o, a, i, e⟩ && nB ⟨8, key, ns, ts, s, o, a, i, e⟩ && tB ⟨8, key, ns, ts, s, o, a, i, e⟩ && sB ⟨8, key, ns, ts, s, o, a, i, e⟩ && cB ⟨8, key, ns, ts, s, o, a, i, e⟩ && (wordF e).2) = true := hr
  simp only [kB, nB, tB, sB, cB, Bool.and_eq_true, decide_eq_true_eq] at hr
  obtain ⟨⟨⟨⟨⟨rfl, rfl⟩, rfl⟩, rfl⟩, ⟨rfl, rfl⟩, rfl⟩, h3⟩ := hr
  exact ⟨rfl, h3⟩
theorem right_kind {r : RpT} (hr : rightB r = true) : r.kind = 1 ∨ r.kind = 2 ∨ r.kind = 3 ∨ r.kind = 4 ∨ r.kind = 5 ∨ r.kind = 6 ∨ r.kind = 7 ∨ r.kind = 8 := by
  refine Decidable.of_not_not fun q => ?_
  unfold rightB at hr
  rw [if_neg (by omega), if_neg (by omega), if_neg (by omega), if_neg (by omega), if_neg (by omega), if_neg (by omega), if_neg (by omega)] at hr
  cases hr
/-- The line of a reply that may be is read as that reply. -/
theorem repF_right {r : RpT} (hk : r.key.length = 32) (hB : Bys r.key) (hr : rightB r = true) : repF (lineR r) = some r := by
  rcases right_kind hr with h | h | h | h | h | h | h | h
  · have e := right_1 h hr
    obtain ⟨k1, k2⟩ := key_hexT hk hB
    have hl : lineR r = wMe ++ 32 :: hexT r.key := by unfold lineR printW; rw [if_pos h, joinW_two, joinW_one]
    rw [hl, repF_two (by decide) (by rw [List.length_append, List.length_cons, hexT_length, hk]; decide), replyF_me, if_pos k1, k2, ← e]
  · have e := right_26 (.inl h) hr
    rw [h] at e
    rw [e]
    decide +kernel
  · obtain ⟨e, h1, h2, h3⟩ := right_3 h hr
    have hl : lineR r = wContacts ++ 32 :: joinW (numT r.names.length :: r.names) := by unfold lineR printW; rw [if_neg (by omega), if_neg (by omega), if_pos h, joinW_two]
    have hlen : (lineR r).length ≤ 640 := by
      rw [hl, List.length_append, List.length_cons]
      have h4 := joinW_le (m := 16) (ws := numT r.names.length :: r.names) (fun w hw => by
        rcases List.mem_cons.1 hw with rfl | hw
        · have := (num_numT (z := r.names.length) (by unfold okN; rw [decide_eq_true (by omega), decide_eq_true (by omega)]; rfl)).2.2; omega
        · exact name_len (List.all_eq_true.1 h1 w hw))
      have h5 : (numT r.names.length :: r.names).length * (16 + 1) ≤ 4 * (16 + 1) := Nat.mul_le_mul_right _ (by rw [List.length_cons]; omega)
      have : wContacts.length = 8 := rfl
      omega
    rw [hl] at hlen
    rw [hl, repF_two (by decide) hlen, replyF_contacts, con_all h3 h1 h2, Option.map_some, ← e]
  · obtain ⟨e, h1⟩ := right_4 h hr
    obtain ⟨n1, n2, n3⟩ := num_numT h1
    have hl : lineR r = wQueued ++ 32 :: numT r.seq := by unfold lineR printW; rw [if_neg (by omega), if_neg (by omega), if_neg (by omega), if_pos h, joinW_two, joinW_one]
    rw [hl, repF_two (by decide) (by rw [List.length_append, List.length_cons]; have : wQueued.length = 6 := rfl; omega), replyF_queued, if_pos n1, n2, ← e]
  · obtain ⟨e, h1, h2⟩ := right_5 h hr
    have hl : lineR r = wInbox ++ 32 :: joinW (numT r.texts.length :: r.texts.map quoT) := by unfold lineR printW; rw [if_neg (by omega), if_neg (by omega), if_neg (by omega), if_neg (by omega), if_pos h, joinW_two]
    have hlen : (lineR r).length ≤ 640 := by
      rw [hl, List.length_append, List.length_cons, joinW_beh, List.length_append]
      have hn : (numT r.texts.length).length ≤ 1 := by rw [numT_nat]; exact dig_le (by omega) (by decide)
      have h4 : (behW r.texts).length ≤ r.texts.length * 99 := flat_len _ 99 _ fun t ht => by
        have := quoT_length t
        have := (text_any (List.all_eq_true.1 h1 t ht)).2
        rw [List.length_cons]
        omega
      have h5 : r.texts.length * 99 ≤ 6 * 99 := Nat.mul_le_mul_right _ h2
      have : wInbox.length = 5 := rfl
      omega
    rw [hl] at hlen
    rw [hl, repF_two (by decide) hlen, replyF_inbox, inbox_all h2 h1, Option.map_some, ← e]
  · have e := right_26 (.inr h) hr
    rw [h] at e
    rw [e]
    decide +kernel
  · obtain ⟨e, h1, h2, h3⟩ := right_7 h hr
    obtain ⟨a1, a2, a3⟩ := num_numT h1
    obtain ⟨b1, b2, b3⟩ := num_numT h2
    obtain ⟨c1, c2, c3⟩ := num_numT h3
    have bl : ∀ z, okN z = true → 32 ∉ numT z := fun z hz => by
      unfold okN at hz
      rw [Bool.and_eq_true] at hz
      exact numT_blank (of_decide_eq_true hz.1)
    have hl : lineR r = wStatus ++ 32 :: joinW [numT r.out, numT r.acked, numT r.inn] := by unfold lineR printW; rw [if_neg (by omega), if_neg (by omega), if_neg (by omega), if_neg (by omega), if_neg (by omega), if_neg (by omega), if_pos h, joinW_two]
    have hlen : (lineR r).length ≤ 640 := by
      rw [hl, List.length_append, List.length_cons]
      have h4 := joinW_le (m := 9) (ws := [numT r.out, numT r.acked, numT r.inn]) (fun w hw => by
        simp only [List.mem_cons, List.not_mem_nil, or_false] at hw
        rcases hw with rfl | rfl | rfl <;> assumption)
      have : wStatus.length = 6 := rfl
      simp only [List.length_cons, List.length_nil] at h4
      omega
    rw [hl] at hlen
    rw [hl, repF_two (by decide) hlen, replyF_status, split_join _ _ (fun x hx => by
      simp only [List.mem_cons, List.not_mem_nil, or_false] at hx
      rcases hx with rfl | rfl | rfl
      · exact bl _ h1
      · exact bl _ h2
      · exact bl _ h3)]
    simp only
    rw [a1, b1, c1, a2, b2, c2, ← e]
    rfl
  · obtain ⟨e, h1⟩ := right_8 h hr
    have hm := wordF_mem h1
    have hl : lineR r = wError ++ 32 :: (wordF r.err).1 := by unfold lineR printW; rw [if_neg (by omega), if_neg (by omega), if_neg (by omega), if_neg (by omega), if_neg (by omega), if_neg (by omega), if_neg (by omega), if_pos h, joinW_two, joinW_one]
    have hw5 := word_len r.err
    rw [hl, repF_two (by decide) (by rw [List.length_append, List.length_cons]; have : wError.length = 5 := rfl; omega), replyF_error, named_of hm, if_pos rfl, ← e]
/-- A reply is printed just if it may be. -/
theorem chkB_right {r : RpT} (hk : r.key.length = 32) (hB : Bys r.key) : chkB r = rightB r := by
  rw [Bool.eq_iff_iff]
  constructor
  · intro h
    unfold chkB at h
    rw [Bool.and_eq_true, Bool.and_eq_true] at h
    have h1 := of_decide_eq_true h.1.2
    have h2 := of_decide_eq_true h.2
    cases hf : repF (lineR r) with
    | none =>
      unfold repS at h1
      rw [hf] at h1
      split at h1 <;> cases h1
    | some q =>
      have h3 := repF_line hf
      have : q = r := by rw [← h2]; unfold repR; rw [hf]; rfl
      rw [← this]
      exact h3.1
  · intro h
    have h1 := repF_right hk hB h
    have hl := (repF_line h1).2.2
    have ht : r.texts.all textB = true := by
      rcases right_kind h with k | k | k | k | k | k | k | k
      · rw [right_1 k h]; rfl
      · rw [right_26 (.inl k) h]; rfl
      · rw [(right_3 k h).1]; rfl
      · rw [(right_4 k h).1]; rfl
      · exact (right_5 k h).2.1
      · rw [right_26 (.inr k) h]; rfl
      · rw [(right_7 k h).1]; rfl
      · rw [(right_8 k h).1]; rfl
    unfold chkB repR repS
    rw [ht, h1, if_neg (by omega)]
    simp
theorem printF_right {r : RpT} (hk : r.key.length = 32) (hB : Bys r.key) : printF r = if rightB r then (lineR r, 0) else ([], 2) := by
  unfold printF
  rw [chkB_right hk hB]
end
end
section
open Go Go.SL
section
attribute [local irreducible] J JL JE JM LS Y Fc RV Code.wp wpList Code.wpIn wpListIn
attribute [local irreducible] Yc strOf valD dig
variable (E : World)
end
end
end Go.Proofs.YtccagffapohkhaaGreatDoor
