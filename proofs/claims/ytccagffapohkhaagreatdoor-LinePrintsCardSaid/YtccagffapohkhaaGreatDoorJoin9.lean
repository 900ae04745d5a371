import Derived.Test.YtccagffapohkhaaGreatDoorJoin1
import Derived.Test.YtccagffapohkhaaGreatDoorJoin6
import Derived.Test.YtccagffapohkhaaGreatDoorJoin8
namespace Go.Proofs.YtccagffapohkhaaGreatDoor
section
open Go Go.SL
section
theorem cm_at35 {c : CmT} (h : c.key.length = 32) : (cmE c)[35]? = some (.int .i64 c.count) := by
  unfold cmE
  rw [List.getElem?_cons_succ, List.getElem?_cons_succ, List.getElem?_append_right (by rw [ints_len, h]; decide), ints_len, h]
  rfl
theorem cm_key {c : CmT} (h : c.key.length = 32) : ((cmE c).drop 2).take 32 = ints .u8 c.key := by
  unfold cmE
  rw [List.drop_succ_cons, List.drop_succ_cons, List.drop_zero, List.take_append_of_le_length (by rw [ints_len, h]; exact Nat.le_refl _), List.take_of_length_le (by rw [ints_len, h]; exact Nat.le_refl _)]
theorem ints_inj {k : IntKind} {xs ys : List Int} (h : ints k xs = ints k ys) : xs = ys := by
  unfold ints at h
  exact List.map_inj_right (fun a b q => by cases q; rfl) |>.1 h
theorem cmE_inj {c d : CmT} (hc : CmOk c) (hd : CmOk d) : cmE c = cmE d ↔ c = d := by
  constructor
  · intro h
    unfold cmE at h
    rw [List.cons.injEq, List.cons.injEq] at h
    obtain ⟨h1, h2, h3⟩ := h
    obtain ⟨h4, h5⟩ := List.append_inj h3 (by rw [ints_len, ints_len, hc.key, hd.key])
    simp only [List.cons.injEq, Value.string.injEq, Value.int.injEq, true_and, and_true] at h1 h2 h5
    obtain ⟨h6, h7⟩ := h5
    obtain ⟨k, nm, ky, t, z⟩ := c
    obtain ⟨k2, nm2, ky2, t2, z2⟩ := d
    have h1 : k = k2 := h1
    have h2 := (strOf_iff hc.name hd.name).1 h2
    have h4 := ints_inj h4
    have h6 := (strOf_iff hc.text hd.text).1 h6
    have h7 : z = z2 := h7
    dsimp only at h2 h4 h6
    rw [h1, h2, h4, h6, h7]
  · rintro rfl; rfl
theorem wsL_at (k : Int) (h1 : 1 ≤ k) (h2 : k ≤ 7) : (strs wsL)[k.toNat]? = some (.string (strOf (wsL.getD k.toNat []))) := by
  refine strs_at ?_
  rw [List.getD_eq_getElem?_getD, List.getElem?_eq_getElem (show k.toNat < wsL.length by have : wsL.length = 8 := rfl; omega)]
  rfl
end
section
attribute [local irreducible] J JL JE JM LS Y Fc RV Code.wp wpList Code.wpIn wpListIn
attribute [local irreducible] Yc strOf valD dig
variable (E : World)
theorem write_spec (c : CmT) (l : List HProp) (hk : CmOk c) (hn : c.name.length ≤ 1000) (ht : c.text.length ≤ 1000) (hc : R64i c.count) (hK : K24 E l) :
    Fc prog E 60 [.agg (cmE c).toArray].toArray l (fun v l' => v = .string (strOf (lineC c)) ∧ l' = l) := by
  refine Fc.eqs ?_
  have hat1 : (cmE c)[1]? = some (.string (strOf c.name)) := rfl
  have hat34 := cm_at34 hk.key
  have hat35 := cm_at35 hk.key
  have hky := cm_key hk.key
  have hll := (lineC_le hk hn ht hc).1
  obtain ⟨hwl, _⟩ := writeW_each hk hn ht hc
  have hll2 : (joinW (writeW c)).length ≤ 100000000 := by unfold lineC at hll; omega
  refine Fc.of_body (c := ?codeC) Tryz.func60 ?hb Tryz.ntmps60 ?hl ?_
  case hb => exact rfl
  case hl => exact rfl
  refine J.seq ?_
  refine J.region ?_
  refine JL.loud rfl (l_box rfl (by (first | rfl | simp)) rfl (fun b1 => ?_))
  refine JL.step (y_assign rfl) rfl rfl rfl ?_
  refine JL.nil ?_
  refine JE.then_normal ?_
  refine J.seq ?_
  refine J.seq ?_
  refine J.region ?_
  refine JL.step (y_fieldAddr hT rfl rfl rfl rfl rfl rfl) rfl rfl rfl ?_
  refine JL.step (v := .int .i64 c.kind) (y_load1 hT rfl rfl rfl (Rd1.row (by (repeat (first | exact Pick.head | apply Pick.tail | apply Pick.app))) rfl)) rfl rfl rfl ?_
  refine JL.step (y_lss rfl rfl) rfl rfl rfl (JL.step (y_move rfl) rfl rfl rfl ?_)
  all_goals (first | (refine JL.gsplit_dec rfl rfl rfl (fun h => ?_) (fun h => ?_) <;> try (first | (exfalso; omega) | exact absurd rfl h)) | (refine JL.gsplit rfl rfl rfl (fun h => ?_) (fun h => ?_) <;> try (first | cases h | (exfalso; simp at h; done))) | skip)
  all_goals (first | refine JL.gskip rfl rfl rfl rfl rfl rfl ?_ | refine JL.gskipU rfl rfl rfl rfl rfl ?_ | refine JL.gstep rfl rfl rfl (y_fieldAddr hT rfl rfl rfl rfl rfl rfl) rfl rfl ?_)
  all_goals (first | refine JL.gskip rfl rfl rfl rfl rfl rfl ?_ | refine JL.gskipU rfl rfl rfl rfl rfl ?_ | refine JL.gstep rfl rfl rfl (y_load1 (v := .int .i64 c.kind) hT rfl rfl rfl (Rd1.row (by (repeat (first | exact Pick.head | apply Pick.tail | apply Pick.app))) rfl)) rfl rfl ?_)
  all_goals (first | refine JL.gskip rfl rfl rfl rfl rfl rfl ?_ | refine JL.gskipU rfl rfl rfl rfl rfl ?_ | refine JL.gstep rfl rfl rfl (y_gtr rfl rfl) rfl rfl ?_)
  all_goals (refine JL.step (y_pick rfl rfl rfl) rfl rfl rfl ?_)
  all_goals refine JL.nil ?_
  all_goals refine JE.then_normal ?_
  all_goals
    first | apply J.cond_dec rfl | apply J.cond rfl
    case' ht =>
      intro h
      try (first | (exfalso; omega) | (cases h; done) | (exfalso; simp at h; done) | subst h)
      all_goals
        refine J.seq ?_
        refine J.region ?_
        refine JL.step (y_assign rfl) rfl rfl rfl ?_
        refine JL.nil ?_
        refine JE.then_normal ?_
        refine J.ret ?_
        refine JE.then_ret ?_
        refine JE.ret1 (.inl rfl) rfl rfl (by (first | exact RV.tmp rfl | exact RV.cell1 hT rfl rfl rfl (by (exact Rd1.row (by (repeat (first | exact Pick.head | apply Pick.tail | apply Pick.app))) (by rfl))) | exact RV.cellN hT rfl rfl rfl (by (first | exact RdN.rowAll (by (repeat (first | exact Pick.head | apply Pick.tail | apply Pick.app))) | exact RdN.own (by (repeat (first | exact Pick.head | apply Pick.tail | apply Pick.app))))) (by (first | rfl | assumption | (simp; done) | omega)))) ?_
        first
        | (have hl0 : lineC c = [] := by unfold lineC writeW; rw [if_pos (by omega)]; rfl
           rw [hl0, show strOf [] = ⟨#[]⟩ by unfold strOf; rfl]
           exact ⟨rfl, fun w h => h.sup (by (repeat (first | exact Sup.refl | apply Sup.cons (by (repeat (first | exact Pick.head | apply Pick.tail | apply Pick.app))) | apply Sup.app | apply Sup.skip | apply Sup.skips)))⟩)
        | exact ⟨rfl, fun w h => h.sup (by (repeat (first | exact Sup.refl | apply Sup.cons (by (repeat (first | exact Pick.head | apply Pick.tail | apply Pick.app))) | apply Sup.app | apply Sup.skip | apply Sup.skips)))⟩
    case' hf =>
      intro h
      try (first | (exfalso; omega) | (cases h; done) | (exfalso; simp at h; done) | subst h)
      all_goals
        refine J.skip ?_
  all_goals refine JE.then_normal ?_
  all_goals
    refine J.seq ?_
    have hkr : 1 ≤ c.kind ∧ c.kind ≤ 7 := by omega
    have hwa := wsL_at c.kind hkr.1 hkr.2
    obtain ⟨w, hw⟩ : ∃ w, wsL.getD c.kind.toNat [] = w := ⟨_, rfl⟩
    rw [hw] at hwa
    have hW : writeW c = w :: argW c := by unfold writeW; rw [if_neg (by omega), hw]
    refine J.draw _ _ [(1, .q), (2, .q), (0, .l), (3, .q), (4, .n), (5, .q)] mixed (by kernel_rfl) (Split.nil) ?_
    refine JM.quiet rfl rfl rfl rfl (fun m => y_fieldAddr hT rfl rfl rfl rfl rfl rfl) ?_
    refine JM.quiet rfl rfl rfl rfl (fun m => y_load1 (v := .int .i64 c.kind) hT rfl rfl rfl (Rd1.row (Pick.app m (by (repeat (first | exact Pick.head | apply Pick.tail | apply Pick.app)))) rfl)) ?_
    refine JM.loud rfl rfl (fun fr => l_callF e35 rfl rfl (words_spec E _) ?_)
    rintro _ _ ⟨rfl, rfl⟩
    refine ⟨[], (by (repeat (first | exact Split.nil | exact Split.all | refine Split.cons Pick.head ?_))), ?_⟩
    refine JM.quiet rfl rfl rfl rfl (fun m => y_index1 hT rfl rfl rfl rfl rfl rfl rfl (by omega) (by show c.kind < (8 : Int); omega) hwa) ?_
    refine JM.lay rfl rfl rfl rfl (fun a hf => lays_buildSlice hT rfl rfl rfl rfl hf rfl rfl rfl (by (first | exact fill_one rfl (by first | assumption | rfl | (simp; done)) | rfl | simp))) (fun b3 => ?_)
    refine JM.quiet rfl rfl rfl rfl (fun m => y_assign rfl) ?_
    refine JM.nil ?_
    refine JE.then_normal ?_
    refine J.seqK (α := Option Addr × Nat) (fun _ => True) (fun s => [(3, .slice s.1 (writeW c).length s.2)]) (fun s => own 9 1 (.slice s.1 (writeW c).length s.2) (writeW c).length (strs (writeW c)) :: l) ?hj14 (fun hk14 => ?hf14)
    case hf14 =>
      refine J.seq ?_
      skip
      refine J.pre (l' := own 9 1 (.slice (some ⟨b3, 0, none⟩) 1 1) 1 (strs [w]) :: row b1 27 (cmE c) :: l) (fun w9 h => by
        have h9 : Sat E (stars (row b3 9 (strs [w]) :: row b1 27 (cmE c) :: l)) w9 := h.sup (by (repeat (first | exact Sup.refl | apply Sup.cons (by (repeat (first | exact Pick.head | apply Pick.tail | apply Pick.app))) | apply Sup.app | apply Sup.skip | apply Sup.skips)))
        exact h9.own_row (by omega) (by unfold maxLen; omega) rfl rfl rfl) ?_
      refine J.region ?_
      refine JL.step (y_fieldAddr hT rfl rfl rfl rfl rfl rfl) rfl rfl rfl ?_
      refine JL.step (y_load1 hT rfl rfl rfl (by (exact Rd1.row (by (repeat (first | exact Pick.head | apply Pick.tail | apply Pick.app))) (by rfl)))) rfl rfl rfl ?_
      refine JL.nil ?_
      refine JE.then_normal ?_
      refine J.block ?_
      refine J.seq ?_
      refine J.seq ?_
      refine J.region ?_
      refine JL.step (y_eql rfl rfl) rfl rfl rfl (JL.step (y_assign rfl) rfl rfl rfl ?_)
      refine JL.nil ?_
      refine JE.then_normal ?_
      first | apply J.cond_dec rfl | apply J.cond rfl
      case' ht =>
        intro h
        try (first | (exfalso; omega) | (cases h; done) | (exfalso; simp at h; done) | subst h)
        all_goals
          refine J.skip ?_
      case' hf =>
        intro h
        try (first | (exfalso; omega) | (cases h; done) | (exfalso; simp at h; done) | subst h)
        all_goals
          refine J.region ?_
          refine JL.step (y_eql rfl rfl) rfl rfl rfl (JL.step (y_assign rfl) rfl rfl rfl ?_)
          refine JL.nil ?_
      all_goals refine JE.then_normal ?_
      all_goals
        first | apply J.cond_dec rfl | apply J.cond rfl
        case' ht =>
          intro h
          try (first | (exfalso; omega) | (cases h; done) | (exfalso; simp at h; done) | subst h)
          all_goals
            refine J.skip ?_
        case' hf =>
          intro h
          try (first | (exfalso; omega) | (cases h; done) | (exfalso; simp at h; done) | subst h)
          all_goals
            refine J.seq ?_
            refine J.region ?_
            refine JL.step (y_eql rfl rfl) rfl rfl rfl (JL.step (y_assign rfl) rfl rfl rfl ?_)
            refine JL.nil ?_
            refine JE.then_normal ?_
            first | apply J.cond_dec rfl | apply J.cond rfl
            case' ht =>
              intro h
              try (first | (exfalso; omega) | (cases h; done) | (exfalso; simp at h; done) | subst h)
              all_goals
                refine J.draw _ _ [(0, .q), (1, .q), (2, .q), (3, .q), (4, .q), (5, .l), (6, .n), (7, .l), (8, .q)] mixed (by kernel_rfl) (Split.cons (Pick.head) (Split.nil)) ?_
                refine JM.quiet rfl rfl rfl rfl (fun m => y_move rfl) ?_
                refine JM.quiet rfl rfl rfl rfl (fun m => y_fieldAddr hT rfl rfl rfl rfl rfl rfl) ?_
                refine JM.quiet rfl rfl rfl rfl (fun m => y_load1 hT rfl rfl rfl (by (exact Rd1.row (Pick.app m (by (repeat (first | exact Pick.head | apply Pick.tail | apply Pick.app)))) (by rfl)))) ?_
                refine JM.quiet rfl rfl rfl rfl (fun m => y_fieldAddr hT rfl rfl rfl rfl rfl rfl) ?_
                refine JM.quiet rfl rfl rfl rfl (fun m => y_loadN hT rfl rfl rfl (RdN.row (n := 32) (vs := ints .u8 c.key) (Pick.app m (by (repeat (first | exact Pick.head | apply Pick.tail | apply Pick.app)))) hky) (by rw [ints_len, hk.key]; rfl)) ?_
                refine JM.loud rfl rfl (fun fr => l_callF e73 rfl rfl (ktext_spec E c.key _ hk.key hk.kb) ?_)
                rintro _ _ ⟨rfl, rfl⟩
                refine ⟨[_], (by (repeat (first | exact Split.nil | exact Split.all | refine Split.cons Pick.head ?_))), ?_⟩
                refine JM.lay rfl rfl rfl rfl (fun a hf => lays_buildSlice (cs := [.string (strOf c.name), .string (strOf (hexT c.key))]) hT rfl rfl rfl rfl hf rfl rfl rfl (fill_two (cs := [_]) (ds := [_]) rfl rfl rfl rfl)) (fun bs => ?_)
                refine JM.loud rfl rfl (fun fr => l_append hT rfl rfl rfl rfl rfl rfl rfl rfl (by (repeat (first | exact Pick.head | apply Pick.tail | apply Pick.app))) (by (first | exact RdN.rowAll (by (repeat (first | exact Pick.head | apply Pick.tail | apply Pick.app))) | exact RdN.own (by (repeat (first | exact Pick.head | apply Pick.tail | apply Pick.app))))) (by (first | rfl | assumption | (simp; done) | omega)) (by (first | assumption | exact ones_of rfl | exact encW_one _ | exact encB_one _ | (intro u hu; simp at hu; rcases hu with rfl | rfl <;> rfl) | (intro u hu; simp at hu; subst hu; rfl) | simp)) (by (first | exact Nat.le_trans (Nat.mul_le_mul_left _ (Nat.le_of_ble_eq_true rfl : _ ≤ 4096)) (by omega) | exact Nat.le_trans (Nat.mul_le_mul_left _ (Nat.le_of_ble_eq_true rfl : _ ≤ 1)) (by omega))) (by (first | omega | exact Nat.le_of_ble_eq_true rfl | decide | (simp; omega))) rfl (fun ab5 cb5 hb5 => ⟨[_, _], (by (repeat (first | exact Split.nil | exact Split.all | refine Split.cons Pick.head ?_))), ?_⟩))
                refine JM.quiet rfl rfl rfl rfl (fun m => y_assign rfl) ?_
                refine JM.nil ?_
            case' hf =>
              intro h
              try (first | (exfalso; omega) | (cases h; done) | (exfalso; simp at h; done) | subst h)
              all_goals
                refine J.seq ?_
                refine J.region ?_
                refine JL.step (y_eql rfl rfl) rfl rfl rfl (JL.step (y_assign rfl) rfl rfl rfl ?_)
                refine JL.nil ?_
                refine JE.then_normal ?_
                first | apply J.cond_dec rfl | apply J.cond rfl
                case' ht =>
                  intro h
                  try (first | (exfalso; omega) | (cases h; done) | (exfalso; simp at h; done) | subst h)
                  all_goals
                    refine J.region ?_
                    refine JL.step (y_move rfl) rfl rfl rfl (JL.step (y_fieldAddr hT rfl rfl rfl rfl rfl rfl) rfl rfl rfl ?_)
                    refine JL.step (y_load1 hT rfl rfl rfl (by (exact Rd1.row (by (repeat (first | exact Pick.head | apply Pick.tail | apply Pick.app))) (by rfl)))) rfl rfl rfl ?_
                    refine JL.step (y_fieldAddr hT rfl rfl rfl rfl rfl rfl) rfl rfl rfl ?_
                    refine JL.step (y_load1 hT rfl rfl rfl (Rd1.row (by (repeat (first | exact Pick.head | apply Pick.tail | apply Pick.app))) hat34)) rfl rfl rfl ?_
                    refine JL.loud rfl (l_buildSliceP (cs := [.string (strOf c.name), .string (strOf c.text)]) hT rfl rfl rfl rfl rfl rfl rfl (fill_two (cs := [_]) (ds := [_]) rfl rfl rfl rfl) rfl (fun bs => ?_))
                    refine JL.loud rfl (l_append hT rfl rfl rfl rfl rfl rfl rfl rfl (by (repeat (first | exact Pick.head | apply Pick.tail | apply Pick.app))) (by (first | exact RdN.rowAll (by (repeat (first | exact Pick.head | apply Pick.tail | apply Pick.app))) | exact RdN.own (by (repeat (first | exact Pick.head | apply Pick.tail | apply Pick.app))))) (by (first | rfl | assumption | (simp; done) | omega)) (by (first | assumption | exact ones_of rfl | exact encW_one _ | exact encB_one _ | (intro u hu; simp at hu; rcases hu with rfl | rfl <;> rfl) | (intro u hu; simp at hu; subst hu; rfl) | simp)) (by (first | exact Nat.le_trans (Nat.mul_le_mul_left _ (Nat.le_of_ble_eq_true rfl : _ ≤ 4096)) (by omega) | exact Nat.le_trans (Nat.mul_le_mul_left _ (Nat.le_of_ble_eq_true rfl : _ ≤ 1)) (by omega))) (by (first | omega | exact Nat.le_of_ble_eq_true rfl | decide | (simp; omega))) rfl (fun ab6 cb6 hb6 => ?_))
                    refine JL.step (y_assign rfl) rfl rfl rfl ?_
                    refine JL.nil ?_
                case' hf =>
                  intro h
                  try (first | (exfalso; omega) | (cases h; done) | (exfalso; simp at h; done) | subst h)
                  all_goals
                    refine J.seq ?_
                    refine J.region ?_
                    refine JL.step (y_eql rfl rfl) rfl rfl rfl (JL.step (y_assign rfl) rfl rfl rfl ?_)
                    refine JL.nil ?_
                    refine JE.then_normal ?_
                    first | apply J.cond_dec rfl | apply J.cond rfl
                    case' ht =>
                      intro h
                      try (first | (exfalso; omega) | (cases h; done) | (exfalso; simp at h; done) | subst h)
                      all_goals
                        refine J.draw _ _ [(0, .q), (1, .q), (2, .q), (3, .q), (4, .q), (5, .l), (6, .n), (7, .l), (8, .q)] mixed (by kernel_rfl) (Split.cons (Pick.head) (Split.nil)) ?_
                        refine JM.quiet rfl rfl rfl rfl (fun m => y_move rfl) ?_
                        refine JM.quiet rfl rfl rfl rfl (fun m => y_fieldAddr hT rfl rfl rfl rfl rfl rfl) ?_
                        refine JM.quiet rfl rfl rfl rfl (fun m => y_load1 hT rfl rfl rfl (by (exact Rd1.row (Pick.app m (by (repeat (first | exact Pick.head | apply Pick.tail | apply Pick.app)))) (by rfl)))) ?_
                        refine JM.quiet rfl rfl rfl rfl (fun m => y_fieldAddr hT rfl rfl rfl rfl rfl rfl) ?_
                        refine JM.quiet rfl rfl rfl rfl (fun m => y_load1 hT rfl rfl rfl (Rd1.row (Pick.app m (by (repeat (first | exact Pick.head | apply Pick.tail | apply Pick.app)))) hat35)) ?_
                        refine JM.loud rfl rfl (fun fr => l_callF e74 rfl rfl (itoa_spec E c.count _ hc.1 hc.2 (((hK.cons _).app fr).cons _)) ?_)
                        rintro _ _ ⟨rfl, rfl⟩
                        refine ⟨[_], (by (repeat (first | exact Split.nil | exact Split.all | refine Split.cons Pick.head ?_))), ?_⟩
                        refine JM.lay rfl rfl rfl rfl (fun a hf => lays_buildSlice (cs := [.string (strOf c.name), .string (strOf (numT c.count))]) hT rfl rfl rfl rfl hf rfl rfl rfl (fill_two (cs := [_]) (ds := [_]) rfl rfl rfl rfl)) (fun bs => ?_)
                        refine JM.loud rfl rfl (fun fr => l_append hT rfl rfl rfl rfl rfl rfl rfl rfl (by (repeat (first | exact Pick.head | apply Pick.tail | apply Pick.app))) (by (first | exact RdN.rowAll (by (repeat (first | exact Pick.head | apply Pick.tail | apply Pick.app))) | exact RdN.own (by (repeat (first | exact Pick.head | apply Pick.tail | apply Pick.app))))) (by (first | rfl | assumption | (simp; done) | omega)) (by (first | assumption | exact ones_of rfl | exact encW_one _ | exact encB_one _ | (intro u hu; simp at hu; rcases hu with rfl | rfl <;> rfl) | (intro u hu; simp at hu; subst hu; rfl) | simp)) (by (first | exact Nat.le_trans (Nat.mul_le_mul_left _ (Nat.le_of_ble_eq_true rfl : _ ≤ 4096)) (by omega) | exact Nat.le_trans (Nat.mul_le_mul_left _ (Nat.le_of_ble_eq_true rfl : _ ≤ 1)) (by omega))) (by (first | omega | exact Nat.le_of_ble_eq_true rfl | decide | (simp; omega))) rfl (fun ab8 cb8 hb8 => ⟨[_, _], (by (repeat (first | exact Split.nil | exact Split.all | refine Split.cons Pick.head ?_))), ?_⟩))
                        refine JM.quiet rfl rfl rfl rfl (fun m => y_assign rfl) ?_
                        refine JM.nil ?_
                    case' hf =>
                      intro h
                      try (first | (exfalso; omega) | (cases h; done) | (exfalso; simp at h; done) | subst h)
                      all_goals
                        refine J.region ?_
                        refine JL.step (y_move rfl) rfl rfl rfl (JL.step (y_fieldAddr hT rfl rfl rfl rfl rfl rfl) rfl rfl rfl ?_)
                        refine JL.step (y_load1 hT rfl rfl rfl (by (exact Rd1.row (by (repeat (first | exact Pick.head | apply Pick.tail | apply Pick.app))) (by rfl)))) rfl rfl rfl ?_
                        refine JL.loud rfl (l_buildSliceP hT rfl rfl rfl rfl rfl rfl rfl (by (first | exact fill_one rfl (by first | assumption | rfl | (simp; done)) | rfl | simp)) rfl (fun b9 => ?_))
                        refine JL.loud rfl (l_append hT rfl rfl rfl rfl rfl rfl rfl rfl (by (repeat (first | exact Pick.head | apply Pick.tail | apply Pick.app))) (by (first | exact RdN.rowAll (by (repeat (first | exact Pick.head | apply Pick.tail | apply Pick.app))) | exact RdN.own (by (repeat (first | exact Pick.head | apply Pick.tail | apply Pick.app))))) (by (first | rfl | assumption | (simp; done) | omega)) (by (first | assumption | exact ones_of rfl | exact encW_one _ | exact encB_one _ | (intro u hu; simp at hu; rcases hu with rfl | rfl <;> rfl) | (intro u hu; simp at hu; subst hu; rfl) | simp)) (by (first | exact Nat.le_trans (Nat.mul_le_mul_left _ (Nat.le_of_ble_eq_true rfl : _ ≤ 4096)) (by omega) | exact Nat.le_trans (Nat.mul_le_mul_left _ (Nat.le_of_ble_eq_true rfl : _ ≤ 1)) (by omega))) (by (first | omega | exact Nat.le_of_ble_eq_true rfl | decide | (simp; omega))) rfl (fun ab10 cb10 hb10 => ?_))
                        refine JL.step (y_assign rfl) rfl rfl rfl ?_
                        refine JL.nil ?_
      all_goals refine JE.block_normal ?_
      all_goals refine JE.then_normal ?_
      all_goals
        first
        | (have zz := ab10
           have hA : argW c = [c.name] := by unfold argW; rw [if_neg (by omega), if_neg (by omega), if_neg (by omega), if_neg (by omega)]
           rw [hW, hA] at hk14
           exact J.closeK hk14 (ab10, cb10) trivial ⟨rfl, trivial⟩ (fun w9 h => h.sup (by (repeat (first | exact Sup.refl | apply Sup.cons (by (repeat (first | exact Pick.head | apply Pick.tail | apply Pick.app))) | apply Sup.app | apply Sup.skip | apply Sup.skips)))))
        | (have zz := ab8
           have hA : argW c = [c.name, numT c.count] := by unfold argW; rw [if_neg (by omega), if_neg (by omega), if_neg (by omega), if_pos (by omega)]
           rw [hW, hA] at hk14
           exact J.closeK hk14 (ab8, cb8) trivial ⟨rfl, trivial⟩ (fun w9 h => h.sup (by (repeat (first | exact Sup.refl | apply Sup.cons (by (repeat (first | exact Pick.head | apply Pick.tail | apply Pick.app))) | apply Sup.app | apply Sup.skip | apply Sup.skips)))))
        | (have zz := ab6
           have hA : argW c = [c.name, c.text] := by unfold argW; rw [if_neg (by omega), if_neg (by omega), if_pos (by omega)]
           rw [hW, hA] at hk14
           exact J.closeK hk14 (ab6, cb6) trivial ⟨rfl, trivial⟩ (fun w9 h => h.sup (by (repeat (first | exact Sup.refl | apply Sup.cons (by (repeat (first | exact Pick.head | apply Pick.tail | apply Pick.app))) | apply Sup.app | apply Sup.skip | apply Sup.skips)))))
        | (have zz := ab5
           have hA : argW c = [c.name, hexT c.key] := by unfold argW; rw [if_neg (by omega), if_pos (by omega)]
           rw [hW, hA] at hk14
           exact J.closeK hk14 (ab5, cb5) trivial ⟨rfl, trivial⟩ (fun w9 h => h.sup (by (repeat (first | exact Sup.refl | apply Sup.cons (by (repeat (first | exact Pick.head | apply Pick.tail | apply Pick.app))) | apply Sup.app | apply Sup.skip | apply Sup.skips)))))
        | (have zz := ab4
           have hA : argW c = [c.name, hexT c.key] := by unfold argW; rw [if_neg (by omega), if_pos (by omega)]
           rw [hW, hA] at hk14
           exact J.closeK hk14 (ab4, cb4) trivial ⟨rfl, trivial⟩ (fun w9 h => h.sup (by (repeat (first | exact Sup.refl | apply Sup.cons (by (repeat (first | exact Pick.head | apply Pick.tail | apply Pick.app))) | apply Sup.app | apply Sup.skip | apply Sup.skips)))))
        | (have hA : argW c = [] := by unfold argW; rw [if_pos (by omega)]
           rw [hW, hA] at hk14
           exact J.closeK hk14 (some ⟨b3, 0, none⟩, 1) trivial ⟨rfl, trivial⟩ (fun w9 h => h.sup (by (repeat (first | exact Sup.refl | apply Sup.cons (by (repeat (first | exact Pick.head | apply Pick.tail | apply Pick.app))) | apply Sup.app | apply Sup.skip | apply Sup.skips)))))
    rintro ⟨a27, c27⟩ _
    dsimp only
    refine J.fact (fun w s => Sat.own_at (s.pick Pick.head)) fun oo => ?_
    refine J.seq ?_
    refine J.region ?_
    refine JL.step (y_move rfl) rfl rfl rfl ?_
    refine JL.loud rfl (l_callF e75 rfl rfl (join_spec E a27 (writeW c).length c27 (writeW c) _ rfl (by omega) hll2 (oo.inl (by (repeat (first | exact Pick.head | apply Pick.tail | apply Pick.app))))) ?_)
    rintro _ _ ⟨rfl, rfl⟩
    refine JL.step (y_assign rfl) rfl rfl rfl ?_
    refine JL.nil ?_
    refine JE.then_normal ?_
    refine J.ret ?_
    refine JE.ret1 (.inl rfl) rfl rfl (by (first | exact RV.tmp rfl | exact RV.cell1 hT rfl rfl rfl (by (exact Rd1.row (by (repeat (first | exact Pick.head | apply Pick.tail | apply Pick.app))) (by rfl))) | exact RV.cellN hT rfl rfl rfl (by (first | exact RdN.rowAll (by (repeat (first | exact Pick.head | apply Pick.tail | apply Pick.app))) | exact RdN.own (by (repeat (first | exact Pick.head | apply Pick.tail | apply Pick.app))))) (by (first | rfl | assumption | (simp; done) | omega)))) ?_
    first
    | (have hl0 : lineC c = [] := by unfold lineC writeW; rw [if_pos (by omega)]; rfl
       rw [hl0, show strOf [] = ⟨#[]⟩ by unfold strOf; rfl]
       exact ⟨rfl, fun w h => h.sup (by (repeat (first | exact Sup.refl | apply Sup.cons (by (repeat (first | exact Pick.head | apply Pick.tail | apply Pick.app))) | apply Sup.app | apply Sup.skip | apply Sup.skips)))⟩)
    | exact ⟨rfl, fun w h => h.sup (by (repeat (first | exact Sup.refl | apply Sup.cons (by (repeat (first | exact Pick.head | apply Pick.tail | apply Pick.app))) | apply Sup.app | apply Sup.skip | apply Sup.skips)))⟩
theorem check24_spec (c : CmT) (l : List HProp) (hk : CmOk c) (hn : c.name.length ≤ 1000) (ht : c.text.length ≤ 1000) (hc : R64i c.count) (hK : K24 E l) :
    Fc prog E 33 [.agg (cmE c).toArray].toArray l (fun v l' => v = .int .i64 (if chkC c then 0 else 2) ∧ l' = l) := by
  refine Fc.eqs ?_
  obtain ⟨hlL, hlB⟩ := lineC_le hk hn ht hc
  have hcl : (cmE c).length = i27.size := cmE_length hk.key
  have hdk := cmdF_ok hlB
  obtain ⟨d, hd⟩ : ∃ d, (cmdF (lineC c)).1 = d := ⟨_, rfl⟩
  obtain ⟨e, he⟩ : ∃ e, (cmdF (lineC c)).2.1 = e := ⟨_, rfl⟩
  have hch : chkC c = (decide (e = 0) && decide (d = c)) := by unfold chkC; rw [hd, he]
  rw [hd] at hdk
  have hdl : (cmE d).length = i27.size := cmE_length hdk.key
  obtain ⟨be, hbe⟩ : ∃ b, decide (¬ e = 0) = b := ⟨_, rfl⟩
  obtain ⟨bd, hbd⟩ : ∃ b, decide (¬ d = c) = b := ⟨_, rfl⟩
  have hbd2 : bd = true ↔ ¬ cmE d = cmE c := by rw [cmE_inj hdk hk, ← hbd, decide_eq_true_eq]
  refine Fc.of_body (c := ?codeC) Tryz.func33 ?hb Tryz.ntmps33 ?hl ?_
  case hb => exact rfl
  case hl => exact rfl
  refine J.seq ?_
  refine J.region ?_
  refine JL.loud rfl (l_box rfl (by (first | rfl | simp)) rfl (fun b1 => ?_))
  refine JL.step (y_assign rfl) rfl rfl rfl ?_
  refine JL.nil ?_
  refine JE.then_normal ?_
  refine J.seq ?_
  refine J.region ?_
  refine JL.step (y_loadN hT rfl rfl rfl (RdN.rowAll (by (repeat (first | exact Pick.head | apply Pick.tail | apply Pick.app)))) hcl) rfl rfl rfl ?_
  refine JL.loud rfl (l_callF e60 rfl rfl (write_spec E c _ hk hn ht hc (hK.cons _)) ?_)
  rintro _ _ ⟨rfl, rfl⟩
  refine JL.loud rfl (l_callF e13 rfl rfl (hd ▸ he ▸ command_spec E (lineC c) _ hlB (by omega) (hK.cons _)) ?_)
  rintro _ _ ⟨rfl, rfl⟩
  refine JL.step (y_move rfl) rfl rfl rfl (JL.step (y_extract rfl rfl) rfl rfl rfl (JL.step (y_extract rfl rfl) rfl rfl rfl ?_))
  refine JL.loud rfl (l_alloc hT rfl rfl (by (first | rfl | simp)) rfl (fun b4 => ?_))
  refine JL.loud rfl (l_alloc hT rfl rfl (by (first | rfl | simp)) rfl (fun b5 => ?_))
  have hone := cmE_one d
  refine JL.loud rfl (l_storeAll hT rfl rfl rfl hdl hone (by (repeat (first | exact Pick.head | apply Pick.tail | apply Pick.app))) (by (first | rfl | assumption | (simp; done) | omega)) ?_)
  refine JL.loud rfl (l_storeAll hT rfl rfl rfl (by (first | rfl | assumption | (simp; done) | omega)) (by (first | assumption | exact ones_of rfl | exact encW_one _ | exact encB_one _ | (intro u hu; simp at hu; rcases hu with rfl | rfl <;> rfl) | (intro u hu; simp at hu; subst hu; rfl) | simp)) (by (repeat (first | exact Pick.head | apply Pick.tail | apply Pick.app))) (by (first | rfl | assumption | (simp; done) | omega)) ?_)
  refine JL.nil ?_
  refine JE.then_normal ?_
  refine J.seq ?_
  refine J.seq ?_
  rcases be with _ | _
  all_goals
    refine J.region ?_
    refine JL.step (y_fieldAddr hT rfl rfl rfl rfl rfl rfl) rfl rfl rfl ?_
    refine JL.step (y_load1 hT rfl rfl rfl (by (exact Rd1.row (by (repeat (first | exact Pick.head | apply Pick.tail | apply Pick.app))) (by rfl)))) rfl rfl rfl ?_
    refine JL.step (y_neqB rfl rfl hbe) rfl rfl rfl ?_
    refine JL.step (y_move rfl) rfl rfl rfl ?_
    all_goals (first | (refine JL.gsplit_dec rfl rfl rfl (fun h => ?_) (fun h => ?_) <;> try (first | (exfalso; omega) | exact absurd rfl h)) | (refine JL.gsplit rfl rfl rfl (fun h => ?_) (fun h => ?_) <;> try (first | cases h | (exfalso; simp at h; done))) | skip)
    all_goals (first | refine JL.gskip rfl rfl rfl rfl rfl rfl ?_ | refine JL.gskipU rfl rfl rfl rfl rfl ?_ | refine JL.gstep rfl rfl rfl (y_loadN hT rfl rfl rfl (RdN.rowAll (by (repeat (first | exact Pick.head | apply Pick.tail | apply Pick.app)))) hdl) rfl rfl ?_)
    all_goals (first | refine JL.gskip rfl rfl rfl rfl rfl rfl ?_ | refine JL.gskipU rfl rfl rfl rfl rfl ?_ | refine JL.gstep rfl rfl rfl (y_loadN hT rfl rfl rfl (RdN.rowAll (by (repeat (first | exact Pick.head | apply Pick.tail | apply Pick.app)))) hcl) rfl rfl ?_)
    all_goals (first | refine JL.gskip rfl rfl rfl rfl rfl rfl ?_ | refine JL.gskipU rfl rfl rfl rfl rfl ?_ | refine JL.gstep rfl rfl rfl (y_flat_ne (m := 4) (ks := cmK) (xs := cmE d) (ys := cmE c) (b := bd) hT (by kernel_rfl) rfl (by kernel_rfl) (by kernel_rfl) rfl rfl rfl rfl (cm_fits hdk.key) (cm_fits hk.key) hbd2) rfl rfl ?_)
    all_goals (refine JL.step (y_pick rfl rfl rfl) rfl rfl rfl ?_)
    all_goals refine JL.nil ?_
  all_goals refine JE.then_normal ?_
  all_goals
    first | apply J.cond_dec rfl | apply J.cond rfl
    case' ht =>
      intro h
      try (first | (exfalso; omega) | (cases h; done) | (exfalso; simp at h; done) | subst h)
      all_goals
        refine J.seq ?_
        refine J.region ?_
        refine JL.step (y_assign rfl) rfl rfl rfl ?_
        refine JL.nil ?_
        refine JE.then_normal ?_
        refine J.ret ?_
        refine JE.then_ret ?_
        refine JE.ret1 (.inl rfl) rfl rfl (by (first | exact RV.tmp rfl | exact RV.cell1 hT rfl rfl rfl (by (exact Rd1.row (by (repeat (first | exact Pick.head | apply Pick.tail | apply Pick.app))) (by rfl))) | exact RV.cellN hT rfl rfl rfl (by (first | exact RdN.rowAll (by (repeat (first | exact Pick.head | apply Pick.tail | apply Pick.app))) | exact RdN.own (by (repeat (first | exact Pick.head | apply Pick.tail | apply Pick.app))))) (by (first | rfl | assumption | (simp; done) | omega)))) ?_
        rw [hch]
        clear hbd2
        refine ⟨?_, fun w h => h.sup (by (repeat (first | exact Sup.refl | apply Sup.cons (by (repeat (first | exact Pick.head | apply Pick.tail | apply Pick.app))) | apply Sup.app | apply Sup.skip | apply Sup.skips)))⟩
        by_cases q1 : e = 0 <;> by_cases q2 : d = c <;> first | (rw [decide_eq_true q1, decide_eq_true q2]; first | rfl | (exfalso; simp_all; done)) | (rw [decide_eq_true q1, decide_eq_false q2]; first | rfl | (exfalso; simp_all; done)) | (rw [decide_eq_false q1]; first | rfl | (exfalso; simp_all; done))
    case' hf =>
      intro h
      try (first | (exfalso; omega) | (cases h; done) | (exfalso; simp at h; done) | subst h)
      all_goals
        refine J.skip ?_
  all_goals refine JE.then_normal ?_
  all_goals
    refine J.seq ?_
    refine J.region ?_
    refine JL.step (y_assign rfl) rfl rfl rfl ?_
    refine JL.nil ?_
    refine JE.then_normal ?_
    refine J.ret ?_
    refine JE.ret1 (.inl rfl) rfl rfl (by (first | exact RV.tmp rfl | exact RV.cell1 hT rfl rfl rfl (by (exact Rd1.row (by (repeat (first | exact Pick.head | apply Pick.tail | apply Pick.app))) (by rfl))) | exact RV.cellN hT rfl rfl rfl (by (first | exact RdN.rowAll (by (repeat (first | exact Pick.head | apply Pick.tail | apply Pick.app))) | exact RdN.own (by (repeat (first | exact Pick.head | apply Pick.tail | apply Pick.app))))) (by (first | rfl | assumption | (simp; done) | omega)))) ?_
    rw [hch]
    clear hbd2
    refine ⟨?_, fun w h => h.sup (by (repeat (first | exact Sup.refl | apply Sup.cons (by (repeat (first | exact Pick.head | apply Pick.tail | apply Pick.app))) | apply Sup.app | apply Sup.skip | apply Sup.skips)))⟩
    by_cases q1 : e = 0 <;> by_cases q2 : d = c <;> first | (rw [decide_eq_true q1, decide_eq_true q2]; first | rfl | (exfalso; simp_all; done)) | (rw [decide_eq_true q1, decide_eq_false q2]; first | rfl | (exfalso; simp_all; done)) | (rw [decide_eq_false q1]; first | rfl | (exfalso; simp_all; done))
theorem print24_spec (c : CmT) (l : List HProp) (hk : CmOk c) (hn : c.name.length ≤ 1000) (ht : c.text.length ≤ 1000) (hc : R64i c.count) (hK : K24 E l) :
    Fc prog E 31 [.agg (cmE c).toArray].toArray l (fun v l' => v = .tuple #[.string (strOf (printC c).1), .int .i64 (printC c).2] ∧ l' = l) := by
  refine Fc.eqs ?_
  have hcl : (cmE c).length = i27.size := cmE_length hk.key
  obtain ⟨b, hb⟩ : ∃ b, chkC c = b := ⟨_, rfl⟩
  refine Fc.of_body (c := ?codeC) Tryz.func31 ?hb Tryz.ntmps31 ?hl ?_
  case hb => exact rfl
  case hl => exact rfl
  refine J.seq ?_
  refine J.region ?_
  refine JL.loud rfl (l_box rfl (by (first | rfl | simp)) rfl (fun b1 => ?_))
  refine JL.step (y_assign rfl) rfl rfl rfl (JL.step (y_assign rfl) rfl rfl rfl ?_)
  refine JL.nil ?_
  refine JE.then_normal ?_
  refine J.seq ?_
  refine J.seq ?_
  refine J.region ?_
  refine JL.step (y_loadN hT rfl rfl rfl (RdN.rowAll (by (repeat (first | exact Pick.head | apply Pick.tail | apply Pick.app)))) hcl) rfl rfl rfl ?_
  refine JL.loud rfl (l_callF e33 rfl rfl (hb ▸ check24_spec E c _ hk hn ht hc (hK.cons _)) ?_)
  rintro _ _ ⟨rfl, rfl⟩
  refine JL.step (y_assign rfl) rfl rfl rfl ?_
  refine JL.nil ?_
  refine JE.then_normal ?_
  refine J.seq ?_
  rcases b with _ | _
  all_goals
    refine J.region ?_
    refine JL.step (y_move rfl) rfl rfl rfl (JL.step (y_neq rfl rfl) rfl rfl rfl ?_)
    refine JL.nil ?_
  all_goals refine JE.then_normal ?_
  all_goals
    first | apply J.cond_dec rfl | apply J.cond rfl
    case' ht =>
      intro h
      try (first | (exfalso; omega) | (cases h; done) | (exfalso; simp at h; done) | subst h)
      all_goals
        refine J.seq ?_
        refine J.region ?_
        refine JL.step (y_move rfl) rfl rfl rfl (JL.step (y_assign rfl) rfl rfl rfl (JL.step (y_assign rfl) rfl rfl rfl ?_))
        refine JL.nil ?_
        refine JE.then_normal ?_
        refine J.ret ?_
        refine JE.then_ret ?_
        refine JE.ret2 (.inl rfl) rfl rfl (by (first | exact RV.tmp rfl | exact RV.cell1 hT rfl rfl rfl (by (exact Rd1.row (by (repeat (first | exact Pick.head | apply Pick.tail | apply Pick.app))) (by rfl))) | exact RV.cellN hT rfl rfl rfl (by (first | exact RdN.rowAll (by (repeat (first | exact Pick.head | apply Pick.tail | apply Pick.app))) | exact RdN.own (by (repeat (first | exact Pick.head | apply Pick.tail | apply Pick.app))))) (by (first | rfl | assumption | (simp; done) | omega)))) (by (first | exact RV.tmp rfl | exact RV.cell1 hT rfl rfl rfl (by (exact Rd1.row (by (repeat (first | exact Pick.head | apply Pick.tail | apply Pick.app))) (by rfl))) | exact RV.cellN hT rfl rfl rfl (by (first | exact RdN.rowAll (by (repeat (first | exact Pick.head | apply Pick.tail | apply Pick.app))) | exact RdN.own (by (repeat (first | exact Pick.head | apply Pick.tail | apply Pick.app))))) (by (first | rfl | assumption | (simp; done) | omega)))) ?_
        first
        | (have zz : chkC c = false := hb
           have hp : printC c = ([], 2) := by unfold printC; rw [zz]; rfl
           rw [hp, show strOf (([] : List Int), (2 : Int)).1 = ⟨#[]⟩ by unfold strOf; rfl]
           exact ⟨rfl, fun w h => h.sup (by (repeat (first | exact Sup.refl | apply Sup.cons (by (repeat (first | exact Pick.head | apply Pick.tail | apply Pick.app))) | apply Sup.app | apply Sup.skip | apply Sup.skips)))⟩)
        | (have hp : printC c = (lineC c, 0) := by unfold printC; rw [hb]; rfl
           rw [hp]
           exact ⟨rfl, fun w h => h.sup (by (repeat (first | exact Sup.refl | apply Sup.cons (by (repeat (first | exact Pick.head | apply Pick.tail | apply Pick.app))) | apply Sup.app | apply Sup.skip | apply Sup.skips)))⟩)
    case' hf =>
      intro h
      try (first | (exfalso; omega) | (cases h; done) | (exfalso; simp at h; done) | subst h)
      all_goals
        refine J.skip ?_
  all_goals refine JE.then_normal ?_
  all_goals
    refine J.seq ?_
    refine J.region ?_
    refine JL.step (y_loadN hT rfl rfl rfl (RdN.rowAll (by (repeat (first | exact Pick.head | apply Pick.tail | apply Pick.app)))) hcl) rfl rfl rfl ?_
    refine JL.loud rfl (l_callF e60 rfl rfl (write_spec E c _ hk hn ht hc (hK.cons _)) ?_)
    rintro _ _ ⟨rfl, rfl⟩
    refine JL.step (y_assign rfl) rfl rfl rfl (JL.step (y_assign rfl) rfl rfl rfl ?_)
    refine JL.nil ?_
    refine JE.then_normal ?_
    refine J.ret ?_
    refine JE.ret2 (.inl rfl) rfl rfl (by (first | exact RV.tmp rfl | exact RV.cell1 hT rfl rfl rfl (by (exact Rd1.row (by (repeat (first | exact Pick.head | apply Pick.tail | apply Pick.app))) (by rfl))) | exact RV.cellN hT rfl rfl rfl (by (first | exact RdN.rowAll (by (repeat (first | exact Pick.head | apply Pick.tail | apply Pick.app))) | exact RdN.own (by (repeat (first | exact Pick.head | apply Pick.tail | apply Pick.app))))) (by (first | rfl | assumption | (simp; done) | omega)))) (by (first | exact RV.tmp rfl | exact RV.cell1 hT rfl rfl rfl (by (exact Rd1.row (by (repeat (first | exact Pick.head | apply Pick.tail | apply Pick.app))) (by rfl))) | exact RV.cellN hT rfl rfl rfl (by (first | exact RdN.rowAll (by (repeat (first | exact Pick.head | apply Pick.tail | apply Pick.app))) | exact RdN.own (by (repeat (first | exact Pick.head | apply Pick.tail | apply Pick.app))))) (by (first | rfl | assumption | (simp; done) | omega)))) ?_
    first
    | (have zz : chkC c = false := hb
       have hp : printC c = ([], 2) := by unfold printC; rw [zz]; rfl
       rw [hp, show strOf (([] : List Int), (2 : Int)).1 = ⟨#[]⟩ by unfold strOf; rfl]
       exact ⟨rfl, fun w h => h.sup (by (repeat (first | exact Sup.refl | apply Sup.cons (by (repeat (first | exact Pick.head | apply Pick.tail | apply Pick.app))) | apply Sup.app | apply Sup.skip | apply Sup.skips)))⟩)
    | (have hp : printC c = (lineC c, 0) := by unfold printC; rw [hb]; rfl
       rw [hp]
       exact ⟨rfl, fun w h => h.sup (by (repeat (first | exact Sup.refl | apply Sup.cons (by (repeat (first | exact Pick.head | apply Pick.tail | apply Pick.app))) | apply Sup.app | apply Sup.skip | apply Sup.skips)))⟩)
end
end
section
open Go Go.SL
section
attribute [local irreducible] J JL JE JM LS Y Fc RV Code.wp wpList Code.wpIn wpListIn
attribute [local irreducible] Yc strOf valD dig
variable (E : World)
theorem lawcut_spec (xs : List Int) (l : List HProp) (hB : Bys xs) : Fc prog E 12 [.string (strOf xs)].toArray l (fun v l' => v = .string (strOf (xs.take 700)) ∧ l' = l) := by
  refine Fc.eqs ?_
  refine Fc.of_body (c := ?codeC) Tryz.func12 ?hb Tryz.ntmps12 ?hl ?_
  case hb => exact rfl
  case hl => exact rfl
  refine J.seq ?_
  refine J.region ?_
  refine JL.step (y_assign rfl) rfl rfl rfl ?_
  refine JL.nil ?_
  refine JE.then_normal ?_
  refine J.seq ?_
  refine J.region ?_
  refine JL.step (y_move rfl) rfl rfl rfl (JL.step (y_move rfl) rfl rfl rfl ?_)
  refine JL.step (y_lenS hT rfl rfl rfl) rfl rfl rfl ?_
  refine JL.step (v := .int .i64 ((min xs.length 700 : Nat) : Int)) (y_min2 rfl rfl (by omega)) rfl rfl rfl ?_
  refine JL.step (y_cutS (lo := 0) (hi := min xs.length 700) hT hB rfl rfl rfl (.inl ⟨rfl, rfl⟩) (.inr ⟨_, _, _, rfl, rfl, rfl⟩) (Nat.zero_le _) (Nat.min_le_left _ _)) rfl rfl rfl ?_
  refine JL.step (y_assign rfl) rfl rfl rfl ?_
  refine JL.nil ?_
  refine JE.then_normal ?_
  refine J.ret ?_
  refine JE.ret1 (.inl rfl) rfl rfl (by (first | exact RV.tmp rfl | exact RV.cell1 hT rfl rfl rfl (by (exact Rd1.row (by (repeat (first | exact Pick.head | apply Pick.tail | apply Pick.app))) (by rfl))) | exact RV.cellN hT rfl rfl rfl (by (first | exact RdN.rowAll (by (repeat (first | exact Pick.head | apply Pick.tail | apply Pick.app))) | exact RdN.own (by (repeat (first | exact Pick.head | apply Pick.tail | apply Pick.app))))) (by (first | rfl | assumption | (simp; done) | omega)))) ?_
  have e : xs.take (min xs.length 700) = xs.take 700 := by
    rcases Nat.le_total xs.length 700 with q | q
    · rw [Nat.min_eq_left q, List.take_length, List.take_of_length_le q]
    · rw [Nat.min_eq_right q]
  rw [List.drop_zero, e]
  exact ⟨rfl, fun w h => h⟩
end
end
section
open Go Go.SL
section
theorem headW_in {ys : List Int} {i : Nat} (h : i < (headW ys).length) : ∃ x, ys[i]? = some x ∧ x ≠ 32 := by
  obtain ⟨x, hx⟩ : ∃ x, (headW ys)[i]? = some x := ⟨_, List.getElem?_eq_getElem h⟩
  have hm := List.mem_of_getElem? hx
  refine ⟨x, ?_, fun q => headW_none ys (q ▸ hm)⟩
  have h2 : (ys.take (headW ys).length)[i]? = some x := by rw [headW_take]; exact hx
  rwa [List.getElem?_take_of_lt h] at h2
theorem headW_end {ys : List Int} : (headW ys).length = ys.length ∨ ys[(headW ys).length]? = some 32 := by
  by_cases h : 32 ∈ ys
  · exact .inr (headW_at h)
  · exact .inl (by rw [headW_all h])
end
section
attribute [local irreducible] J JL JE JM LS Y Fc RV Code.wp wpList Code.wpIn wpListIn
attribute [local irreducible] Yc strOf valD dig
variable (E : World)
theorem send_spec (rb : Nat) (xs : List Int) (a : Nat) (e p : Int) (L r : List HProp) (hp : Pick L (row rb 71 (rdE xs a e p)) r) : Fc prog E 39 [.pointer (some ⟨rb, 0, none⟩)].toArray L (fun v l' => v = .bool (decide ((a : Int) = xs.length)) ∧ l' = L) := by
  refine Fc.eqs ?_
  refine Fc.of_body (c := ?codeC) Tryz.func39 ?hb Tryz.ntmps39 ?hl ?_
  case hb => exact rfl
  case hl => exact rfl
  refine J.seq ?_
  refine J.region ?_
  refine JL.step (y_assign rfl) rfl rfl rfl ?_
  refine JL.nil ?_
  refine JE.then_normal ?_
  refine J.seq ?_
  refine J.draw _ _ [(0, .q), (1, .q), (2, .q), (3, .q), (4, .q), (5, .q), (6, .q), (7, .q), (8, .q), (9, .q), (10, .q)] mixed (by kernel_rfl) (Split.nil) ?_
  refine JM.quiet rfl rfl rfl rfl (fun m => y_move rfl) ?_
  refine JM.quiet rfl rfl rfl rfl (fun m => (by first | exact y_nilCheck rfl | exact y_nilCheckF rfl | exact y_nilCheckY rfl)) ?_
  refine JM.quiet rfl rfl rfl rfl (fun m => y_fieldAddr hT rfl rfl rfl rfl rfl rfl) ?_
  refine JM.quiet rfl rfl rfl rfl (fun m => y_load1 hT rfl rfl rfl (Rd1.row (Pick.app m hp) rfl)) ?_
  refine JM.quiet rfl rfl rfl rfl (fun m => y_move rfl) ?_
  refine JM.quiet rfl rfl rfl rfl (fun m => (by first | exact y_nilCheck rfl | exact y_nilCheckF rfl | exact y_nilCheckY rfl)) ?_
  refine JM.quiet rfl rfl rfl rfl (fun m => y_fieldAddr hT rfl rfl rfl rfl rfl rfl) ?_
  refine JM.quiet rfl rfl rfl rfl (fun m => y_load1 hT rfl rfl rfl (Rd1.row (Pick.app m hp) rfl)) ?_
  refine JM.quiet rfl rfl rfl rfl (fun m => y_lenS hT rfl rfl rfl) ?_
  refine JM.quiet rfl rfl rfl rfl (fun m => y_eql rfl rfl) ?_
  refine JM.quiet rfl rfl rfl rfl (fun m => y_assign rfl) ?_
  refine JM.nil ?_
  refine JE.then_normal ?_
  refine J.ret ?_
  refine JE.ret1 (.inl rfl) rfl rfl (by (first | exact RV.tmp rfl | exact RV.cell1 hT rfl rfl rfl (by (exact Rd1.row (by (repeat (first | exact Pick.head | apply Pick.tail | apply Pick.app))) (by rfl))) | exact RV.cellN hT rfl rfl rfl (by (first | exact RdN.rowAll (by (repeat (first | exact Pick.head | apply Pick.tail | apply Pick.app))) | exact RdN.own (by (repeat (first | exact Pick.head | apply Pick.tail | apply Pick.app))))) (by (first | rfl | assumption | (simp; done) | omega)))) ?_
  exact ⟨rfl, fun w h => h⟩
theorem swrong_spec (e p : Int) (l : List HProp) : Fc prog E 38 [.int .i64 e, .int .i64 p].toArray l (fun v l' => v = .tuple #[.agg (cmE cm0).toArray, .agg #[.int .i64 e, .int .i64 p]] ∧ l' = l) := by
  refine Fc.eqs ?_
  unfold cm0
  rw [cm_zero]
  refine Fc.of_body (c := ?codeC) Tryz.func38 ?hb Tryz.ntmps38 ?hl ?_
  case hb => exact rfl
  case hl => exact rfl
  refine J.seq ?_
  refine J.region ?_
  refine JL.loud rfl (l_alloc hT rfl rfl (by (first | rfl | simp)) rfl (fun b1 => ?_))
  refine JL.loud rfl (l_alloc hT rfl rfl (by (first | rfl | simp)) rfl (fun b2 => ?_))
  refine JL.nil ?_
  refine JE.then_normal ?_
  refine J.seq ?_
  refine J.region ?_
  refine JL.step (y_build (cs := [_, _, _, _, _, _, _, _, _, _, _, _, _, _, _, _, _, _, _, _, _, _, _, _, _, _, _, _, _, _, _, _, _, _, _, _]) hT rfl rfl rfl rfl rfl rfl trivial rfl) rfl rfl rfl (JL.step (y_move rfl) rfl rfl rfl (JL.step (y_move rfl) rfl rfl rfl ?_))
  refine JL.step (y_build (cs := [_, _]) hT rfl rfl rfl rfl rfl rfl ⟨⟨(by (first | rfl | assumption | (simp; done) | omega)), Nat.le_of_ble_eq_true rfl⟩, ⟨⟨(by (first | rfl | assumption | (simp; done) | omega)), Nat.le_of_ble_eq_true rfl⟩, trivial⟩⟩ rfl) rfl rfl rfl ?_
  refine JL.loud rfl (l_storeAll hT rfl rfl rfl (by (first | rfl | assumption | (simp; done) | omega)) (by (first | assumption | exact ones_of rfl | exact encW_one _ | exact encB_one _ | (intro u hu; simp at hu; rcases hu with rfl | rfl <;> rfl) | (intro u hu; simp at hu; subst hu; rfl) | simp)) (by (repeat (first | exact Pick.head | apply Pick.tail | apply Pick.app))) (by (first | rfl | assumption | (simp; done) | omega)) ?_)
  refine JL.loud rfl (l_storeAll hT rfl rfl rfl (by (first | rfl | assumption | (simp; done) | omega)) (by (first | assumption | exact ones_of rfl | exact encW_one _ | exact encB_one _ | (intro u hu; simp at hu; rcases hu with rfl | rfl <;> rfl) | (intro u hu; simp at hu; subst hu; rfl) | simp)) (by (repeat (first | exact Pick.head | apply Pick.tail | apply Pick.app))) (by (first | rfl | assumption | (simp; done) | omega)) ?_)
  refine JL.nil ?_
  refine JE.then_normal ?_
  refine J.ret ?_
  refine JE.ret2 (.inl rfl) rfl rfl (by (first | exact RV.tmp rfl | exact RV.cell1 hT rfl rfl rfl (by (exact Rd1.row (by (repeat (first | exact Pick.head | apply Pick.tail | apply Pick.app))) (by rfl))) | exact RV.cellN hT rfl rfl rfl (by (first | exact RdN.rowAll (by (repeat (first | exact Pick.head | apply Pick.tail | apply Pick.app))) | exact RdN.own (by (repeat (first | exact Pick.head | apply Pick.tail | apply Pick.app))))) (by (first | rfl | assumption | (simp; done) | omega)))) (by (first | exact RV.tmp rfl | exact RV.cell1 hT rfl rfl rfl (by (exact Rd1.row (by (repeat (first | exact Pick.head | apply Pick.tail | apply Pick.app))) (by rfl))) | exact RV.cellN hT rfl rfl rfl (by (first | exact RdN.rowAll (by (repeat (first | exact Pick.head | apply Pick.tail | apply Pick.app))) | exact RdN.own (by (repeat (first | exact Pick.head | apply Pick.tail | apply Pick.app))))) (by (first | rfl | assumption | (simp; done) | omega)))) ?_
  exact ⟨rfl, fun w h => h.sup (by (repeat (first | exact Sup.refl | apply Sup.cons (by (repeat (first | exact Pick.head | apply Pick.tail | apply Pick.app))) | apply Sup.app | apply Sup.skip | apply Sup.skips)))⟩
theorem spart_skip (rb : Nat) (xs : List Int) (a : Nat) (e p : Int) (l : List HProp) (he : ¬ e = 0) : Fc prog E 42 [.pointer (some ⟨rb, 0, none⟩)].toArray (row rb 71 (rdE xs a e p) :: l) (fun v l' => v = .tuple #[.string (strOf []), .int .i64 0] ∧ l' = row rb 71 (rdE xs a e p) :: l) := by
  refine Fc.post ?_
  have e0 : strOf [] = ⟨#[]⟩ := by unfold strOf; rfl
  rw [e0]
  refine Fc.of_body (c := ?codeC) Tryz.func42 ?hb Tryz.ntmps42 ?hl ?_
  case hb => exact rfl
  case hl => exact rfl
  refine J.seq ?_
  refine J.region ?_
  refine JL.step (y_assign rfl) rfl rfl rfl (JL.step (y_assign rfl) rfl rfl rfl ?_)
  refine JL.nil ?_
  refine JE.then_normal ?_
  refine J.seq ?_
  refine J.seq ?_
  refine J.region ?_
  refine JL.step (y_move rfl) rfl rfl rfl ?_
  refine JL.step ((by first | exact y_nilCheck rfl | exact y_nilCheckF rfl | exact y_nilCheckY rfl)) rfl rfl rfl ?_
  refine JL.step (y_fieldAddr hT rfl rfl rfl rfl rfl rfl) rfl rfl rfl (JL.step (y_fieldAddr hT rfl rfl rfl rfl rfl rfl) rfl rfl rfl ?_)
  refine JL.step (y_load1 hT rfl rfl rfl (by (exact Rd1.row (by (repeat (first | exact Pick.head | apply Pick.tail | apply Pick.app))) (by rfl)))) rfl rfl rfl ?_
  refine JL.step (y_neq rfl rfl) rfl rfl rfl ?_
  refine JL.nil ?_
  refine JE.then_normal ?_
  refine J.cond_t rfl (by (first | rfl | assumption | (simp; done) | (simp; omega))) ?_
  refine J.seq ?_
  refine J.region ?_
  refine JL.step (y_assign rfl) rfl rfl rfl (JL.step (y_assign rfl) rfl rfl rfl ?_)
  refine JL.nil ?_
  refine JE.then_normal ?_
  refine J.ret ?_
  refine JE.then_ret ?_
  refine JE.ret2 (.inl rfl) rfl rfl (by (first | exact RV.tmp rfl | exact RV.cell1 hT rfl rfl rfl (by (exact Rd1.row (by (repeat (first | exact Pick.head | apply Pick.tail | apply Pick.app))) (by rfl))) | exact RV.cellN hT rfl rfl rfl (by (first | exact RdN.rowAll (by (repeat (first | exact Pick.head | apply Pick.tail | apply Pick.app))) | exact RdN.own (by (repeat (first | exact Pick.head | apply Pick.tail | apply Pick.app))))) (by (first | rfl | assumption | (simp; done) | omega)))) (by (first | exact RV.tmp rfl | exact RV.cell1 hT rfl rfl rfl (by (exact Rd1.row (by (repeat (first | exact Pick.head | apply Pick.tail | apply Pick.app))) (by rfl))) | exact RV.cellN hT rfl rfl rfl (by (first | exact RdN.rowAll (by (repeat (first | exact Pick.head | apply Pick.tail | apply Pick.app))) | exact RdN.own (by (repeat (first | exact Pick.head | apply Pick.tail | apply Pick.app))))) (by (first | rfl | assumption | (simp; done) | omega)))) ?_
  exact ⟨_, fun w h => h, rfl, rfl⟩
theorem spart_go (rb : Nat) (xs : List Int) (a : Nat) (l : List HProp) (hB : Bys xs) (hl : xs.length ≤ 1000000) (ha : a ≤ xs.length) : Fc prog E 42 [.pointer (some ⟨rb, 0, none⟩)].toArray (row rb 71 (rdE xs a 0 0) :: l)
    (fun v l' => (a = xs.length ∧ v = .tuple #[.string (strOf []), .int .i64 0] ∧ l' = row rb 71 (rdE xs a 340 a) :: l) ∨
      (a < xs.length ∧ v = .tuple #[.string (strOf (partAt xs a)), .int .i64 ((a + 1 : Nat) : Int)] ∧ l' = row rb 71 (rdE xs (a + 1 + (partAt xs a).length) 0 0) :: l)) := by
  refine Fc.post ?_
  have e0 : strOf [] = ⟨#[]⟩ := by unfold strOf; rfl
  rw [e0]
  refine Fc.of_body (c := ?codeC) Tryz.func42 ?hb Tryz.ntmps42 ?hl ?_
  case hb => exact rfl
  case hl => exact rfl
  refine J.seq ?_
  refine J.region ?_
  refine JL.step (y_assign rfl) rfl rfl rfl (JL.step (y_assign rfl) rfl rfl rfl ?_)
  refine JL.nil ?_
  refine JE.then_normal ?_
  refine J.seq ?_
  refine J.seq ?_
  refine J.region ?_
  refine JL.step (y_move rfl) rfl rfl rfl ?_
  refine JL.step ((by first | exact y_nilCheck rfl | exact y_nilCheckF rfl | exact y_nilCheckY rfl)) rfl rfl rfl ?_
  refine JL.step (y_fieldAddr hT rfl rfl rfl rfl rfl rfl) rfl rfl rfl (JL.step (y_fieldAddr hT rfl rfl rfl rfl rfl rfl) rfl rfl rfl ?_)
  refine JL.step (y_load1 hT rfl rfl rfl (by (exact Rd1.row (by (repeat (first | exact Pick.head | apply Pick.tail | apply Pick.app))) (by rfl)))) rfl rfl rfl ?_
  refine JL.step (y_neq rfl rfl) rfl rfl rfl ?_
  refine JL.nil ?_
  refine JE.then_normal ?_
  refine J.cond_f rfl (by (first | rfl | assumption | (simp; done) | (simp; omega))) ?_
  refine J.skip ?_
  refine JE.then_normal ?_
  refine J.seq ?_
  refine J.seq ?_
  refine J.region ?_
  refine JL.step (y_move rfl) rfl rfl rfl ?_
  refine JL.loud rfl (l_callF e39 rfl rfl (send_spec E rb xs a 0 0 _ _ Pick.head) ?_)
  rintro _ _ ⟨rfl, rfl⟩
  refine JL.nil ?_
  refine JE.then_normal ?_
  first | apply J.cond_dec rfl | apply J.cond rfl
  case' ht =>
    intro h
    try (first | (exfalso; omega) | (cases h; done) | (exfalso; simp at h; done) | subst h)
    all_goals
      refine J.seq ?_
      refine J.region ?_
      refine JL.step (y_move rfl) rfl rfl rfl (JL.step (y_move rfl) rfl rfl rfl ?_)
      refine JL.step ((by first | exact y_nilCheck rfl | exact y_nilCheckF rfl | exact y_nilCheckY rfl)) rfl rfl rfl ?_
      refine JL.step (y_fieldAddr hT rfl rfl rfl rfl rfl rfl) rfl rfl rfl ?_
      refine JL.step (y_load1 hT rfl rfl rfl (by (exact Rd1.row (by (repeat (first | exact Pick.head | apply Pick.tail | apply Pick.app))) (by rfl)))) rfl rfl rfl ?_
      refine JL.step (y_build (cs := [_, _]) hT rfl rfl rfl rfl rfl rfl ⟨⟨(by (first | rfl | assumption | (simp; done) | omega)), Nat.le_of_ble_eq_true rfl⟩, ⟨⟨(by (first | rfl | assumption | (simp; done) | omega)), Nat.le_of_ble_eq_true rfl⟩, trivial⟩⟩ rfl) rfl rfl rfl ?_
      refine JL.step ((by first | exact y_nilCheck rfl | exact y_nilCheckF rfl | exact y_nilCheckY rfl)) rfl rfl rfl ?_
      refine JL.step (y_fieldAddr hT rfl rfl rfl rfl rfl rfl) rfl rfl rfl ?_
      refine JL.loud rfl (l_storeN hT rfl rfl rfl (by (first | rfl | assumption | (simp; done) | omega)) (by (first | assumption | exact ones_of rfl | exact encW_one _ | exact encB_one _ | (intro u hu; simp at hu; rcases hu with rfl | rfl <;> rfl) | (intro u hu; simp at hu; subst hu; rfl) | simp)) (by (repeat (first | exact Pick.head | apply Pick.tail | apply Pick.app))) (by (first | omega | exact Nat.le_of_ble_eq_true rfl | decide | (simp; omega))) ?_)
      refine JL.nil ?_
      refine JE.then_normal ?_
      refine J.seq ?_
      refine J.region ?_
      refine JL.step (y_assign rfl) rfl rfl rfl (JL.step (y_assign rfl) rfl rfl rfl ?_)
      refine JL.nil ?_
      refine JE.then_normal ?_
      refine J.ret ?_
      refine JE.then_ret ?_
      refine JE.ret2 (.inl rfl) rfl rfl (by (first | exact RV.tmp rfl | exact RV.cell1 hT rfl rfl rfl (by (exact Rd1.row (by (repeat (first | exact Pick.head | apply Pick.tail | apply Pick.app))) (by rfl))) | exact RV.cellN hT rfl rfl rfl (by (first | exact RdN.rowAll (by (repeat (first | exact Pick.head | apply Pick.tail | apply Pick.app))) | exact RdN.own (by (repeat (first | exact Pick.head | apply Pick.tail | apply Pick.app))))) (by (first | rfl | assumption | (simp; done) | omega)))) (by (first | exact RV.tmp rfl | exact RV.cell1 hT rfl rfl rfl (by (exact Rd1.row (by (repeat (first | exact Pick.head | apply Pick.tail | apply Pick.app))) (by rfl))) | exact RV.cellN hT rfl rfl rfl (by (first | exact RdN.rowAll (by (repeat (first | exact Pick.head | apply Pick.tail | apply Pick.app))) | exact RdN.own (by (repeat (first | exact Pick.head | apply Pick.tail | apply Pick.app))))) (by (first | rfl | assumption | (simp; done) | omega)))) ?_
      first
      | exact ⟨_, fun w h => h, .inl ⟨by omega, rfl, rfl⟩⟩
      | (have hiP2 : i = P.length := by
           have h9 : ¬ i < P.length := by
             first
             | (have zz := hbx
                intro h8
                obtain ⟨y, hy, hy2⟩ := hmid h8
                rw [hx] at hy
                cases hy
                exact hy2 (Decidable.of_not_not (of_decide_eq_false hbx)))
             | omega
           omega
         have hcut := partAt_cut (xs := xs) (a := a)
         rw [hP, ← hiP2] at hcut
         rw [hcut, hP, ← hiP2]
         exact ⟨_, fun w h => h, .inr ⟨hlt, rfl, rfl⟩⟩)
  case' hf =>
    intro h
    try (first | (exfalso; omega) | (cases h; done) | (exfalso; simp at h; done) | subst h)
    all_goals
      refine J.skip ?_
  all_goals refine JE.then_normal ?_
  all_goals
    refine J.seq ?_
    have hlt : a < xs.length := by omega
    have hple := partAt_le hlt
    obtain ⟨P, hP⟩ : ∃ P, partAt xs a = P := ⟨_, rfl⟩
    rw [hP] at hple
    refine J.region ?_
    refine JL.step (y_move rfl) rfl rfl rfl ?_
    refine JL.step ((by first | exact y_nilCheck rfl | exact y_nilCheckF rfl | exact y_nilCheckY rfl)) rfl rfl rfl ?_
    refine JL.step (y_fieldAddr hT rfl rfl rfl rfl rfl rfl) rfl rfl rfl ?_
    refine JL.step (y_load1 hT rfl rfl rfl (by (exact Rd1.row (by (repeat (first | exact Pick.head | apply Pick.tail | apply Pick.app))) (by rfl)))) rfl rfl rfl ?_
    refine JL.step (y_add (m := ((a + 1 : Nat) : Int)) rfl rfl (wrap_i64 (by omega) (by omega))) rfl rfl rfl ?_
    refine JL.step ((by first | exact y_nilCheck rfl | exact y_nilCheckF rfl | exact y_nilCheckY rfl)) rfl rfl rfl ?_
    refine JL.step (y_fieldAddr hT rfl rfl rfl rfl rfl rfl) rfl rfl rfl ?_
    refine JL.loud rfl (l_store1 hT rfl rfl rfl rfl rfl (by (repeat (first | exact Pick.head | apply Pick.tail | apply Pick.app))) (by (first | omega | exact Nat.le_of_ble_eq_true rfl | decide | (simp; omega))) ?_)
    refine JL.nil ?_
    refine JE.then_normal ?_
    refine J.seq ?_
    refine J.region ?_
    refine JL.step (y_move rfl) rfl rfl rfl ?_
    refine JL.step ((by first | exact y_nilCheck rfl | exact y_nilCheckF rfl | exact y_nilCheckY rfl)) rfl rfl rfl ?_
    refine JL.step (y_fieldAddr hT rfl rfl rfl rfl rfl rfl) rfl rfl rfl ?_
    refine JL.step (y_load1 hT rfl rfl rfl (by (exact Rd1.row (by (repeat (first | exact Pick.head | apply Pick.tail | apply Pick.app))) (by rfl)))) rfl rfl rfl ?_
    refine JL.step (y_assign rfl) rfl rfl rfl ?_
    refine JL.nil ?_
    refine JE.then_normal ?_
    refine J.seq ?_
    refine J.block ?_
    refine J.loop (α := Nat) (fun i => i ≤ P.length) (fun i => [(0, .pointer (some ⟨rb, 0, none⟩)), (4, .int .i64 ((a + 1 : Nat) : Int))]) (fun i => row rb 71 (rdE xs (a + 1 + i) 0 0) :: l) (fun i => P.length - i) 0 (Nat.zero_le _) ⟨rfl, rfl, trivial⟩ (fun w h => h) ?_
    intro i hi
    try dsimp only
    have hmid : i < P.length → ∃ x, xs[a + 1 + i]? = some x ∧ x ≠ 32 := fun h => by
      obtain ⟨x, hx, hn⟩ := headW_in (ys := xs.drop (a + 1)) (i := i) (by rw [← hP] at h; exact h)
      rw [List.getElem?_drop] at hx
      exact ⟨x, hx, hn⟩
    have hend : ¬ i < P.length → a + 1 + i = xs.length ∨ xs[a + 1 + i]? = some 32 := fun h => by
      have hiP : i = P.length := by omega
      have h9 := headW_end (ys := xs.drop (a + 1))
      have hPl : (headW (xs.drop (a + 1))).length = P.length := by rw [← hP]; rfl
      rw [hPl, List.length_drop, List.getElem?_drop] at h9
      rcases h9 with h9 | h9
      · left; omega
      · right; rw [hiP]; exact h9
    refine J.seq ?_
    refine J.seq ?_
    obtain ⟨be, hbe⟩ : ∃ b, decide (((a + 1 + i : Nat) : Int) = xs.length) = b := ⟨_, rfl⟩
    rcases be with _ | _
    have hlast : ¬ a + 1 + i = xs.length := by have := of_decide_eq_false hbe; omega
    obtain ⟨x, hx⟩ : ∃ x, xs[a + 1 + i]? = some x := ⟨xs[a + 1 + i]'(by omega), List.getElem?_eq_getElem _⟩
    obtain ⟨bx, hbx⟩ : ∃ b, decide (¬ x = 32) = b := ⟨_, rfl⟩
    rotate_left
    have hlast : a + 1 + i = xs.length := by have := of_decide_eq_true hbe; omega
    rotate_left
    all_goals
      refine J.draw _ _ [(0, .q), (1, .q), (2, .q), (3, .q), (4, .q), (5, .q), (6, .q), (7, .q), (8, .q), (9, .q), (10, .q), (11, .q), (12, .q), (13, .q), (14, .q)] mixed (by kernel_rfl) (Split.nil) ?_
      refine JM.quiet rfl rfl rfl rfl (fun m => y_move rfl) ?_
      refine JM.quiet rfl rfl rfl rfl (fun m => y_callF e39 rfl (hbe ▸ send_spec E rb xs (a + 1 + i) 0 0 _ _ (Pick.app m Pick.head))) ?_
      refine JM.quiet rfl rfl rfl rfl (fun m => y_not rfl) ?_
      refine JM.quiet rfl rfl rfl rfl (fun m => y_move rfl) ?_
      all_goals (first | refine JM.gskip rfl rfl rfl rfl rfl rfl rfl ?_ | refine JM.gskipU rfl rfl rfl rfl rfl rfl ?_ | refine JM.gquiet rfl rfl rfl rfl rfl rfl (fun m => y_move rfl) ?_)
      all_goals (first | refine JM.gskip rfl rfl rfl rfl rfl rfl rfl ?_ | refine JM.gskipU rfl rfl rfl rfl rfl rfl ?_ | refine JM.gquiet rfl rfl rfl rfl rfl rfl (fun m => (by first | exact y_nilCheck rfl | exact y_nilCheckF rfl | exact y_nilCheckY rfl)) ?_)
      all_goals (first | refine JM.gskip rfl rfl rfl rfl rfl rfl rfl ?_ | refine JM.gskipU rfl rfl rfl rfl rfl rfl ?_ | refine JM.gquiet rfl rfl rfl rfl rfl rfl (fun m => y_fieldAddr hT rfl rfl rfl rfl rfl rfl) ?_)
      all_goals (first | refine JM.gskip rfl rfl rfl rfl rfl rfl rfl ?_ | refine JM.gskipU rfl rfl rfl rfl rfl rfl ?_ | refine JM.gquiet rfl rfl rfl rfl rfl rfl (fun m => y_load1 hT rfl rfl rfl (by (exact Rd1.row (Pick.app m (by (repeat (first | exact Pick.head | apply Pick.tail | apply Pick.app)))) (by rfl)))) ?_)
      all_goals (first | refine JM.gskip rfl rfl rfl rfl rfl rfl rfl ?_ | refine JM.gskipU rfl rfl rfl rfl rfl rfl ?_ | refine JM.gquiet rfl rfl rfl rfl rfl rfl (fun m => y_move rfl) ?_)
      all_goals (first | refine JM.gskip rfl rfl rfl rfl rfl rfl rfl ?_ | refine JM.gskipU rfl rfl rfl rfl rfl rfl ?_ | refine JM.gquiet rfl rfl rfl rfl rfl rfl (fun m => (by first | exact y_nilCheck rfl | exact y_nilCheckF rfl | exact y_nilCheckY rfl)) ?_)
      all_goals (first | refine JM.gskip rfl rfl rfl rfl rfl rfl rfl ?_ | refine JM.gskipU rfl rfl rfl rfl rfl rfl ?_ | refine JM.gquiet rfl rfl rfl rfl rfl rfl (fun m => y_fieldAddr hT rfl rfl rfl rfl rfl rfl) ?_)
      all_goals (first | refine JM.gskip rfl rfl rfl rfl rfl rfl rfl ?_ | refine JM.gskipU rfl rfl rfl rfl rfl rfl ?_ | refine JM.gquiet rfl rfl rfl rfl rfl rfl (fun m => y_load1 hT rfl rfl rfl (by (exact Rd1.row (Pick.app m (by (repeat (first | exact Pick.head | apply Pick.tail | apply Pick.app)))) (by rfl)))) ?_)
      all_goals (first | refine JM.gskip rfl rfl rfl rfl rfl rfl rfl ?_ | refine JM.gskipU rfl rfl rfl rfl rfl rfl ?_ | refine JM.gquiet rfl rfl rfl rfl rfl rfl (fun m => y_ixS hT hB rfl rfl rfl rfl rfl hx) ?_)
      all_goals (first | refine JM.gskip rfl rfl rfl rfl rfl rfl rfl ?_ | refine JM.gskipU rfl rfl rfl rfl rfl rfl ?_ | refine JM.gquiet rfl rfl rfl rfl rfl rfl (fun m => y_neqB rfl rfl hbx) ?_)
      all_goals refine JM.quiet rfl rfl rfl rfl (fun m => y_pick rfl rfl rfl) ?_
      all_goals refine JM.nil ?_
    all_goals refine JE.then_normal ?_
    all_goals
      first | apply J.cond_dec rfl | apply J.cond rfl
      case' ht =>
        intro h
        try (first | (exfalso; omega) | (cases h; done) | (exfalso; simp at h; done) | subst h)
        all_goals
          refine J.skip ?_
      case' hf =>
        intro h
        try (first | (exfalso; omega) | (cases h; done) | (exfalso; simp at h; done) | subst h)
        all_goals
          refine J.exit ?_
          refine JE.then_exit ?_
          refine JE.then_exit ?_
          refine JE.block_exit ?_
          refine JE.then_normal ?_
          refine J.seq ?_
          refine J.draw _ _ [(0, .q), (1, .q), (2, .q), (3, .q), (4, .q), (5, .q), (6, .q), (7, .q), (8, .q), (9, .q), (10, .q), (11, .q), (12, .q)] mixed (by kernel_rfl) (Split.nil) ?_
          refine JM.quiet rfl rfl rfl rfl (fun m => y_move rfl) ?_
          refine JM.quiet rfl rfl rfl rfl (fun m => (by first | exact y_nilCheck rfl | exact y_nilCheckF rfl | exact y_nilCheckY rfl)) ?_
          refine JM.quiet rfl rfl rfl rfl (fun m => y_fieldAddr hT rfl rfl rfl rfl rfl rfl) ?_
          refine JM.quiet rfl rfl rfl rfl (fun m => y_load1 hT rfl rfl rfl (by (exact Rd1.row (Pick.app m (by (repeat (first | exact Pick.head | apply Pick.tail | apply Pick.app)))) (by rfl)))) ?_
          refine JM.quiet rfl rfl rfl rfl (fun m => y_move rfl) ?_
          refine JM.quiet rfl rfl rfl rfl (fun m => y_move rfl) ?_
          refine JM.quiet rfl rfl rfl rfl (fun m => (by first | exact y_nilCheck rfl | exact y_nilCheckF rfl | exact y_nilCheckY rfl)) ?_
          refine JM.quiet rfl rfl rfl rfl (fun m => y_fieldAddr hT rfl rfl rfl rfl rfl rfl) ?_
          refine JM.quiet rfl rfl rfl rfl (fun m => y_load1 hT rfl rfl rfl (by (exact Rd1.row (Pick.app m (by (repeat (first | exact Pick.head | apply Pick.tail | apply Pick.app)))) (by rfl)))) ?_
          refine JM.quiet rfl rfl rfl rfl (fun m => y_cutS (lo := a + 1) (hi := a + 1 + i) hT hB rfl rfl rfl (.inr ⟨_, _, _, rfl, rfl, rfl⟩) (.inr ⟨_, _, _, rfl, rfl, rfl⟩) (by omega) (by omega)) ?_
          refine JM.quiet rfl rfl rfl rfl (fun m => y_move rfl) ?_
          refine JM.quiet rfl rfl rfl rfl (fun m => y_assign rfl) ?_
          refine JM.quiet rfl rfl rfl rfl (fun m => y_assign rfl) ?_
          refine JM.nil ?_
          refine JE.then_normal ?_
          refine J.ret ?_
          refine JE.ret2 (.inl rfl) rfl rfl (by (first | exact RV.tmp rfl | exact RV.cell1 hT rfl rfl rfl (by (exact Rd1.row (by (repeat (first | exact Pick.head | apply Pick.tail | apply Pick.app))) (by rfl))) | exact RV.cellN hT rfl rfl rfl (by (first | exact RdN.rowAll (by (repeat (first | exact Pick.head | apply Pick.tail | apply Pick.app))) | exact RdN.own (by (repeat (first | exact Pick.head | apply Pick.tail | apply Pick.app))))) (by (first | rfl | assumption | (simp; done) | omega)))) (by (first | exact RV.tmp rfl | exact RV.cell1 hT rfl rfl rfl (by (exact Rd1.row (by (repeat (first | exact Pick.head | apply Pick.tail | apply Pick.app))) (by rfl))) | exact RV.cellN hT rfl rfl rfl (by (first | exact RdN.rowAll (by (repeat (first | exact Pick.head | apply Pick.tail | apply Pick.app))) | exact RdN.own (by (repeat (first | exact Pick.head | apply Pick.tail | apply Pick.app))))) (by (first | rfl | assumption | (simp; done) | omega)))) ?_
          first
          | exact ⟨_, fun w h => h, .inl ⟨by omega, rfl, rfl⟩⟩
          | (have hiP2 : i = P.length := by
               have h9 : ¬ i < P.length := by
                 first
                 | (have zz := hbx
                    intro h8
                    obtain ⟨y, hy, hy2⟩ := hmid h8
                    rw [hx] at hy
                    cases hy
                    exact hy2 (Decidable.of_not_not (of_decide_eq_false hbx)))
                 | omega
               omega
             have hcut := partAt_cut (xs := xs) (a := a)
             rw [hP, ← hiP2] at hcut
             rw [hcut, hP, ← hiP2]
             exact ⟨_, fun w h => h, .inr ⟨hlt, rfl, rfl⟩⟩)
    all_goals refine JE.then_normal ?_
    all_goals
      refine J.block ?_
      refine J.region ?_
      refine JL.step (y_move rfl) rfl rfl rfl ?_
      refine JL.step ((by first | exact y_nilCheck rfl | exact y_nilCheckF rfl | exact y_nilCheckY rfl)) rfl rfl rfl ?_
      refine JL.step (y_fieldAddr hT rfl rfl rfl rfl rfl rfl) rfl rfl rfl ?_
      refine JL.step (y_load1 hT rfl rfl rfl (by (exact Rd1.row (by (repeat (first | exact Pick.head | apply Pick.tail | apply Pick.app))) (by rfl)))) rfl rfl rfl ?_
      refine JL.step (y_add (m := ((a + 1 + (i + 1) : Nat) : Int)) rfl rfl (wrap_i64 (by omega) (by omega))) rfl rfl rfl ?_
      refine JL.step ((by first | exact y_nilCheck rfl | exact y_nilCheckF rfl | exact y_nilCheckY rfl)) rfl rfl rfl ?_
      refine JL.step (y_fieldAddr hT rfl rfl rfl rfl rfl rfl) rfl rfl rfl ?_
      refine JL.loud rfl (l_store1 hT rfl rfl rfl rfl rfl (by (repeat (first | exact Pick.head | apply Pick.tail | apply Pick.app))) (by (first | omega | exact Nat.le_of_ble_eq_true rfl | decide | (simp; omega))) ?_)
      refine JL.nil ?_
      refine JE.block_normal ?_
    all_goals
      have hiP2 : i < P.length := by
        refine Decidable.of_not_not fun q => ?_
        rcases hend q with q2 | q2
        · exact hlast q2
        · rw [hx] at q2
          cases q2
          simp at hbx
      exact JE.round (s := i) (i + 1) (by omega) ⟨rfl, rfl, trivial⟩ (fun w h => h) (by omega)
theorem sname_go (rb : Nat) (xs : List Int) (a : Nat) (l : List HProp) (hB : Bys xs) (hl : xs.length ≤ 1000000) (ha : a ≤ xs.length) : Fc prog E 41 [.pointer (some ⟨rb, 0, none⟩)].toArray (row rb 71 (rdE xs a 0 0) :: l)
    (fun v l' => (nextB xs a nameB = true ∧ a < xs.length ∧ v = .string (strOf (partAt xs a)) ∧ l' = row rb 71 (rdE xs (a + 1 + (partAt xs a).length) 0 0) :: l) ∨
      (nextB xs a nameB = false ∧ ∃ s a', a' ≤ xs.length ∧ Bys s ∧ v = .string (strOf s) ∧ l' = row rb 71 (rdE xs a' 340 (nextP xs a)) :: l)) := by
  refine Fc.post ?_
  have hpB := partAt_bys hB a
  obtain ⟨bn, hbn⟩ : ∃ b, nameB (partAt xs a) = b := ⟨_, rfl⟩
  refine Fc.of_body (c := ?codeC) Tryz.func41 ?hb Tryz.ntmps41 ?hl ?_
  case hb => exact rfl
  case hl => exact rfl
  refine J.seq ?_
  refine J.region ?_
  refine JL.step (y_assign rfl) rfl rfl rfl ?_
  refine JL.nil ?_
  refine JE.then_normal ?_
  refine J.seq ?_
  refine J.region ?_
  refine JL.step (y_move rfl) rfl rfl rfl ?_
  refine JL.loud rfl (l_callF e42 rfl rfl (spart_go E rb xs a _ hB hl ha) ?_)
  rintro v2 l2 h2
  rcases h2 with ⟨he, rfl, rfl⟩ | ⟨hlt, rfl, rfl⟩
  all_goals refine JL.step (y_move rfl) rfl rfl rfl ?_
  all_goals (refine JL.step (y_extract rfl rfl) rfl rfl rfl ?_)
  all_goals (refine JL.step (y_extract rfl rfl) rfl rfl rfl ?_)
  all_goals (refine JL.step (y_assign rfl) rfl rfl rfl ?_)
  all_goals (refine JL.step (y_assign rfl) rfl rfl rfl ?_)
  all_goals refine JL.nil ?_
  all_goals refine JE.then_normal ?_
  all_goals
    refine J.seq ?_
    refine J.seq ?_
    refine J.region ?_
    refine JL.step (y_move rfl) rfl rfl rfl ?_
    refine JL.step ((by first | exact y_nilCheck rfl | exact y_nilCheckF rfl | exact y_nilCheckY rfl)) rfl rfl rfl ?_
    refine JL.step (y_fieldAddr hT rfl rfl rfl rfl rfl rfl) rfl rfl rfl (JL.step (y_fieldAddr hT rfl rfl rfl rfl rfl rfl) rfl rfl rfl ?_)
    refine JL.step (y_load1 hT rfl rfl rfl (by (exact Rd1.row (by (repeat (first | exact Pick.head | apply Pick.tail | apply Pick.app))) (by rfl)))) rfl rfl rfl ?_
    refine JL.step (y_eql rfl rfl) rfl rfl rfl (JL.step (y_move rfl) rfl rfl rfl ?_)
    all_goals (first | (refine JL.gsplit_dec rfl rfl rfl (fun h => ?_) (fun h => ?_) <;> try (first | (exfalso; omega) | exact absurd rfl h)) | (refine JL.gsplit rfl rfl rfl (fun h => ?_) (fun h => ?_) <;> try (first | cases h | (exfalso; simp at h; done))) | skip)
    all_goals (first | refine JL.gskip rfl rfl rfl rfl rfl rfl ?_ | refine JL.gskipU rfl rfl rfl rfl rfl ?_ | refine JL.gstep rfl rfl rfl (y_move rfl) rfl rfl ?_)
    all_goals (first | refine JL.gskip rfl rfl rfl rfl rfl rfl ?_ | refine JL.gskipU rfl rfl rfl rfl rfl ?_ | (refine JL.gloud rfl rfl rfl (l_callF e48 rfl rfl (hbn ▸ rname_spec E (partAt xs a) _ hpB (by have := partAt_le hlt; omega)) ?_); rintro _ _ ⟨rfl, rfl⟩))
    all_goals (first | refine JL.gskip rfl rfl rfl rfl rfl rfl ?_ | refine JL.gskipU rfl rfl rfl rfl rfl ?_ | refine JL.gstep rfl rfl rfl (y_not rfl) rfl rfl ?_)
    all_goals (refine JL.step (y_pick rfl rfl rfl) rfl rfl rfl ?_)
    all_goals refine JL.nil ?_
    all_goals refine JE.then_normal ?_
    all_goals
      first | apply J.cond_dec rfl | apply J.cond rfl
      case' ht =>
        intro h
        try (first | (exfalso; omega) | (cases h; done) | (exfalso; simp at h; done) | subst h)
        all_goals
          refine J.region ?_
          refine JL.step (y_move rfl) rfl rfl rfl (JL.step (y_move rfl) rfl rfl rfl ?_)
          refine JL.step (y_build (cs := [_, _]) hT rfl rfl rfl rfl rfl rfl ⟨⟨(by (first | rfl | assumption | (simp; done) | omega)), Nat.le_of_ble_eq_true rfl⟩, ⟨⟨(by (first | rfl | assumption | (simp; done) | omega)), Nat.le_of_ble_eq_true rfl⟩, trivial⟩⟩ rfl) rfl rfl rfl ?_
          refine JL.step ((by first | exact y_nilCheck rfl | exact y_nilCheckF rfl | exact y_nilCheckY rfl)) rfl rfl rfl ?_
          refine JL.step (y_fieldAddr hT rfl rfl rfl rfl rfl rfl) rfl rfl rfl ?_
          refine JL.loud rfl (l_storeN hT rfl rfl rfl (by (first | rfl | assumption | (simp; done) | omega)) (by (first | assumption | exact ones_of rfl | exact encW_one _ | exact encB_one _ | (intro u hu; simp at hu; rcases hu with rfl | rfl <;> rfl) | (intro u hu; simp at hu; subst hu; rfl) | simp)) (by (repeat (first | exact Pick.head | apply Pick.tail | apply Pick.app))) (by (first | omega | exact Nat.le_of_ble_eq_true rfl | decide | (simp; omega))) ?_)
          refine JL.nil ?_
      case' hf =>
        intro h
        try (first | (exfalso; omega) | (cases h; done) | (exfalso; simp at h; done) | subst h)
        all_goals
          refine J.skip ?_
    all_goals refine JE.then_normal ?_
    all_goals
      refine J.seq ?_
      refine J.region ?_
      refine JL.step (y_move rfl) rfl rfl rfl (JL.step (y_assign rfl) rfl rfl rfl ?_)
      refine JL.nil ?_
      refine JE.then_normal ?_
      refine J.ret ?_
      refine JE.ret1 (.inl rfl) rfl rfl (by (first | exact RV.tmp rfl | exact RV.cell1 hT rfl rfl rfl (by (exact Rd1.row (by (repeat (first | exact Pick.head | apply Pick.tail | apply Pick.app))) (by rfl))) | exact RV.cellN hT rfl rfl rfl (by (first | exact RdN.rowAll (by (repeat (first | exact Pick.head | apply Pick.tail | apply Pick.app))) | exact RdN.own (by (repeat (first | exact Pick.head | apply Pick.tail | apply Pick.app))))) (by (first | rfl | assumption | (simp; done) | omega)))) ?_
      first
      | (have hn : nextB xs a nameB = false := by unfold nextB; rw [decide_eq_false (by omega), Bool.false_and]
         have hp : nextP xs a = a := by unfold nextP; rw [if_pos he]
         exact ⟨_, fun w h => h, .inr ⟨hn, [], a, ha, Bys.nil, rfl, by rw [hp]⟩⟩)
      | (have zz := hlt
         have hp : nextP xs a = ((a + 1 : Nat) : Int) := by unfold nextP; rw [if_neg (by omega)]; omega
         rcases hc : nameB (partAt xs a) with _ | _
         · have hn : nextB xs a nameB = false := by unfold nextB; rw [hc, Bool.and_false]
           refine ⟨_, fun w h => h, .inr ⟨hn, partAt xs a, a + 1 + (partAt xs a).length, partAt_le (by omega), hpB, rfl, ?_⟩⟩
           rw [hp]
           first | rfl | (exfalso; rw [hc] at hbn; subst hbn; simp at h; done) | (exfalso; simp_all; done)
         · have hn : nextB xs a nameB = true := by unfold nextB; rw [hc, decide_eq_true (by omega), Bool.true_and]
           refine ⟨_, fun w h => h, .inl ⟨hn, hlt, rfl, ?_⟩⟩
           first | rfl | (exfalso; rw [hc] at hbn; subst hbn; simp at h; done) | (exfalso; simp_all; done))
theorem rwords_spec (l : List HProp) : Fc prog E 40 [].toArray l (fun v l' => ∃ b, v = .slice (some ⟨b, 0, none⟩) 8 8 ∧ l' = row b 9 (strs wsL) :: l) := by
  refine Fc.post ?_
  rw [wsL_cells]
  refine Fc.of_body (c := ?codeC) Tryz.func40 ?hb Tryz.ntmps40 ?hl ?_
  case hb => exact rfl
  case hl => exact rfl
  refine J.seq ?_
  refine J.region ?_
  refine JL.step (y_assign rfl) rfl rfl rfl ?_
  refine JL.nil ?_
  refine JE.then_normal ?_
  refine J.seq ?_
  refine J.region ?_
  refine JL.loud rfl (l_buildSliceP (cs := [.string ⟨#[]⟩, .string ⟨#[119, 104, 111, 97, 109, 105]⟩, .string ⟨#[97, 100, 100]⟩, .string ⟨#[108, 105, 115, 116]⟩, .string ⟨#[115, 101, 110, 100]⟩, .string ⟨#[114, 101, 97, 100]⟩, .string ⟨#[112, 117, 114, 103, 101]⟩, .string ⟨#[115, 116, 97, 116, 117, 115]⟩]) hT rfl rfl rfl rfl rfl rfl rfl (by kernel_rfl) rfl (fun b1 => ?_))
  refine JL.step (y_assign rfl) rfl rfl rfl ?_
  refine JL.nil ?_
  refine JE.then_normal ?_
  refine J.ret ?_
  refine JE.ret1 (.inl rfl) rfl rfl (by (first | exact RV.tmp rfl | exact RV.cell1 hT rfl rfl rfl (by (exact Rd1.row (by (repeat (first | exact Pick.head | apply Pick.tail | apply Pick.app))) (by rfl))) | exact RV.cellN hT rfl rfl rfl (by (first | exact RdN.rowAll (by (repeat (first | exact Pick.head | apply Pick.tail | apply Pick.app))) | exact RdN.own (by (repeat (first | exact Pick.head | apply Pick.tail | apply Pick.app))))) (by (first | rfl | assumption | (simp; done) | omega)))) ?_
  exact ⟨_, fun w h => h, b1, rfl, rfl⟩
end
end
section
open Go Go.SL
section
/-- Behind the name of a command. -/
def NmS (xs : List Int) (a : Nat) (k : Int) (s : Nat × Int × Int × List Int) : Prop :=
  s.1 ≤ xs.length ∧ Bys s.2.2.2 ∧
  (((k = 1 ∨ k = 3) ∧ s = (a, 0, 0, [])) ∨
  (¬ (k = 1 ∨ k = 3) ∧ nextB xs a nameB = true ∧ s = (a + 1 + (partAt xs a).length, 0, 0, partAt xs a)) ∨
  (¬ (k = 1 ∨ k = 3) ∧ nextB xs a nameB = false ∧ s.2.1 = 340 ∧ s.2.2.1 = nextP xs a))
/-- Behind a part. -/
def PartS (xs : List Int) (a : Nat) (e p : Int) (s : List Int) (at_ : Int) (a' : Nat) (e' p' : Int) : Prop :=
  (e ≠ 0 ∧ a' = a ∧ e' = e ∧ p' = p ∧ s = [] ∧ at_ = 0) ∨
  (e = 0 ∧ a = xs.length ∧ a' = a ∧ e' = 340 ∧ p' = a ∧ s = [] ∧ at_ = 0) ∨
  (e = 0 ∧ a < xs.length ∧ a' = a + 1 + (partAt xs a).length ∧ e' = 0 ∧ p' = 0 ∧ s = partAt xs a ∧ at_ = ((a + 1 : Nat) : Int))
/-- Behind all that a command has. -/
def FinS (xs : List Int) (a : Nat) (k : Int) (s : Nat × Int × Int × CmT) : Prop :=
  s.1 ≤ xs.length ∧ s.2.2.2.key.length = 32 ∧
  ((s.2.1 = 0 ∧ s.2.2.1 = 0 ∧ restF xs a k = .ok (s.1, s.2.2.2)) ∨ (s.2.1 ≠ 0 ∧ restF xs a k = .error (s.2.1, s.2.2.1)))
theorem fin_name {xs : List Int} {a : Nat} {k e p : Int} {b a' : Nat} {nm : List Int} (h : NmS xs a k (b, e, p, nm)) (he : ¬ e = 0) (ha : a' ≤ xs.length) {c : CmT} (hc : c.key.length = 32) : FinS xs a k (a', e, p, c) := by
  obtain ⟨_, _, h⟩ := h
  rcases h with ⟨_, h⟩ | ⟨_, _, h⟩ | ⟨hk, hn, h1, h2⟩
  · cases h; exact absurd rfl he
  · cases h; exact absurd rfl he
  · dsimp only at h1 h2
    subst h1 h2
    exact ⟨ha, hc, .inr ⟨he, by unfold restF; rw [if_neg hk, if_pos hn]⟩⟩
theorem nm_good {xs : List Int} {a : Nat} {k p : Int} {b : Nat} {nm : List Int} (h : NmS xs a k (b, 0, p, nm)) (hk : ¬ (k = 1 ∨ k = 3)) : nextB xs a nameB = true ∧ b = a + 1 + (partAt xs a).length ∧ p = 0 ∧ nm = partAt xs a ∧ b ≤ xs.length := by
  obtain ⟨h0, _, h⟩ := h
  rcases h with ⟨h1, _⟩ | ⟨_, hn, h⟩ | ⟨_, _, h1, _⟩
  · exact absurd h1 hk
  · cases h; exact ⟨hn, rfl, rfl, rfl, h0⟩
  · cases h1
theorem nm_p {xs : List Int} {a : Nat} {k e p : Int} {b : Nat} {nm : List Int} (h : NmS xs a k (b, e, p, nm)) : e = 0 → p = 0 := by
  obtain ⟨_, _, h⟩ := h
  rcases h with ⟨_, h⟩ | ⟨_, _, h⟩ | ⟨_, _, h1, _⟩
  · cases h; intro _; rfl
  · cases h; intro _; rfl
  · dsimp only at h1; omega
theorem part_bys {xs : List Int} {a : Nat} {e p : Int} {s : List Int} {at_ : Int} {a' : Nat} {e' p' : Int} (hB : Bys xs) (ha : a ≤ xs.length) (h : PartS xs a e p s at_ a' e' p') : Bys s ∧ s.length ≤ xs.length ∧ a' ≤ xs.length := by
  rcases h with ⟨_, rfl, _, _, rfl, _⟩ | ⟨_, _, rfl, _, _, rfl, _⟩ | ⟨_, hlt, rfl, _, _, rfl, _⟩
  · exact ⟨Bys.nil, Nat.zero_le _, ha⟩
  · exact ⟨Bys.nil, Nat.zero_le _, ha⟩
  · have := partAt_le hlt
    exact ⟨partAt_bys hB _, by omega, this⟩
/-- Behind the part that is the last. -/
theorem fin_part {xs : List Int} {a : Nat} {k e p : Int} {b : Nat} {nm : List Int} {s : List Int} {at_ : Int} {a' : Nat} {e' p' : Int} {t : List Int → Bool} {f : List Int → CmT} {c : CmT} (hB : Bys xs) (hN : NmS xs a k (b, e, p, nm)) (hk : ¬ (k = 1 ∨ k = 3)) (hP : PartS xs b e p s at_ a' e' p') (hc : c.key.length = 32)
    (hr : nextB xs a nameB = true → nm = partAt xs a → restF xs a k = if nextB xs (a + 1 + (partAt xs a).length) t = false then .error (340, nextP xs (a + 1 + (partAt xs a).length)) else .ok (a + 1 + (partAt xs a).length + 1 + (partAt xs (a + 1 + (partAt xs a).length)).length, f (partAt xs (a + 1 + (partAt xs a).length))))
    (hf : e' = 0 → t s = true → nm = partAt xs a → c = f s) :
    (¬ e' = 0 → FinS xs a k (a', e', p', c)) ∧ (e' = 0 → t s = true → FinS xs a k (a', e', p', c)) ∧ (e' = 0 → t s = false → FinS xs a k (a', 340, at_, c)) := by
  obtain ⟨hsB, hsl, hal⟩ := part_bys hB hN.1 hP
  by_cases he : e = 0
  · subst he
    obtain ⟨hn, rfl, rfl, rfl, hb⟩ := nm_good hN hk
    have hr := hr hn rfl
    rcases hP with ⟨h, _⟩ | ⟨_, hal2, rfl, rfl, rfl, rfl, rfl⟩ | ⟨_, hlt, rfl, rfl, rfl, rfl, rfl⟩
    · exact absurd rfl h
    · refine ⟨fun _ => ⟨hal, hc, .inr ⟨(show (340 : Int) ≠ 0 by decide), ?_⟩⟩, fun q => absurd q (by decide), fun q => absurd q (by decide)⟩
      have hnb : nextB xs (a + 1 + (partAt xs a).length) t = false := by unfold nextB; rw [decide_eq_false (by omega), Bool.false_and]
      rw [hr, if_pos hnb]
      unfold nextP
      rw [if_pos hal2]
    · have hnb : nextB xs (a + 1 + (partAt xs a).length) t = t (partAt xs (a + 1 + (partAt xs a).length)) := by unfold nextB; rw [decide_eq_true (by omega), Bool.true_and]
      refine ⟨fun q => absurd rfl q, fun _ q => ⟨hal, hc, .inl ⟨rfl, rfl, ?_⟩⟩, fun _ q => ⟨hal, hc, .inr ⟨(show (340 : Int) ≠ 0 by decide), ?_⟩⟩⟩
      · rw [hr, hnb, q, if_neg (by decide), hf rfl q rfl]
      · rw [hr, hnb, q, if_pos rfl]
        unfold nextP
        rw [if_neg (by omega)]
        rfl
  · rcases hP with ⟨_, rfl, rfl, rfl, _, _⟩ | ⟨h, _⟩ | ⟨h, _⟩
    · exact ⟨fun _ => fin_name hN he hal hc, fun q => absurd q he, fun q => absurd q he⟩
    · exact absurd h he
    · exact absurd h he
theorem fin_rest {xs : List Int} {a : Nat} {k e p : Int} {b : Nat} {nm : List Int} (h : NmS xs a k (b, e, p, nm)) (h2 : ¬ k = 2) (h6 : ¬ k = 6) (h4 : ¬ k = 4) : FinS xs a k (b, e, p, ⟨k, nm, zer32, [], 0⟩) := by
  by_cases he : e = 0
  · subst he
    by_cases hk : k = 1 ∨ k = 3
    · obtain ⟨h0, _, h⟩ := h
      rcases h with ⟨_, h⟩ | ⟨hk2, _⟩ | ⟨hk2, _⟩
      · cases h
        exact ⟨h0, rfl, .inl ⟨rfl, rfl, by unfold restF; rw [if_pos hk]⟩⟩
      · exact absurd hk hk2
      · exact absurd hk hk2
    · obtain ⟨hn, rfl, rfl, rfl, hb⟩ := nm_good h hk
      exact ⟨hb, rfl, .inl ⟨rfl, rfl, by unfold restF; rw [if_neg hk, if_neg (by rw [hn]; decide)]; simp only []; rw [if_neg h2, if_neg h6, if_neg h4]⟩⟩
  · exact fin_name h he h.1 rfl
theorem rest_2 {xs : List Int} {a : Nat} (h : nextB xs a nameB = true) : restF xs a 2 = if nextB xs (a + 1 + (partAt xs a).length) keyB = false then .error (340, nextP xs (a + 1 + (partAt xs a).length)) else .ok (a + 1 + (partAt xs a).length + 1 + (partAt xs (a + 1 + (partAt xs a).length)).length, ⟨2, partAt xs a, keyV (partAt xs (a + 1 + (partAt xs a).length)), [], 0⟩) := by
  unfold restF
  rw [if_neg (by decide), if_neg (by rw [h]; decide)]
  rfl
theorem rest_6 {xs : List Int} {a : Nat} (h : nextB xs a nameB = true) : restF xs a 6 = if nextB xs (a + 1 + (partAt xs a).length) numB = false then .error (340, nextP xs (a + 1 + (partAt xs a).length)) else .ok (a + 1 + (partAt xs a).length + 1 + (partAt xs (a + 1 + (partAt xs a).length)).length, ⟨6, partAt xs a, zer32, [], valD (partAt xs (a + 1 + (partAt xs a).length))⟩) := by
  unfold restF
  rw [if_neg (by decide), if_neg (by rw [h]; decide)]
  rfl
theorem rest_4 {xs : List Int} {a : Nat} (h : nextB xs a nameB = true) : restF xs a 4 = match txtF xs (a + 1 + (partAt xs a).length) with | .error p => .error p | .ok t => .ok (xs.length, ⟨4, partAt xs a, zer32, t, 0⟩) := by
  unfold restF
  rw [if_neg (by decide), if_neg (by rw [h]; decide)]
  rfl
theorem cmd_error {xs : List Int} {e p : Int} (h1 : ¬ 640 < xs.length) (h2 : ¬ wIdx wsL (headW xs) < 1) (h : restF xs (headW xs).length (wIdx wsL (headW xs)) = .error (e, p)) : cmdF xs = (cm0, e, p) := by
  unfold cmdF
  rw [if_neg h1, if_neg h2, h]
theorem cmd_ok {xs : List Int} {a : Nat} {c : CmT} (h1 : ¬ 640 < xs.length) (h2 : ¬ wIdx wsL (headW xs) < 1) (h : restF xs (headW xs).length (wIdx wsL (headW xs)) = .ok (a, c)) : cmdF xs = if a < xs.length then (cm0, 340, (a : Int)) else (c, 0, 0) := by
  unfold cmdF
  rw [if_neg h1, if_neg h2, h]
end
section
attribute [local irreducible] J JL JE JM LS Y Fc RV Code.wp wpList Code.wpIn wpListIn
attribute [local irreducible] Yc strOf valD dig
variable (E : World)
theorem spart_any (rb : Nat) (xs : List Int) (a : Nat) (e p : Int) (l : List HProp) (hB : Bys xs) (hl : xs.length ≤ 1000000) (ha : a ≤ xs.length) (hp : e = 0 → p = 0) : Fc prog E 42 [.pointer (some ⟨rb, 0, none⟩)].toArray (row rb 71 (rdE xs a e p) :: l)
    (fun v l' => ∃ s at_ a' e' p', PartS xs a e p s at_ a' e' p' ∧ v = .tuple #[.string (strOf s), .int .i64 at_] ∧ l' = row rb 71 (rdE xs a' e' p') :: l) := by
  by_cases he : e = 0
  · subst he
    rw [hp rfl]
    refine (spart_go E rb xs a l hB hl ha).mono ?_
    rintro v l' (⟨h, rfl, rfl⟩ | ⟨h, rfl, rfl⟩)
    · exact ⟨_, _, _, _, _, .inr (.inl ⟨rfl, h, rfl, rfl, rfl, rfl, rfl⟩), rfl, rfl⟩
    · exact ⟨_, _, _, _, _, .inr (.inr ⟨rfl, h, rfl, rfl, rfl, rfl, rfl⟩), rfl, rfl⟩
  · refine (spart_skip E rb xs a e p l he).mono ?_
    rintro v l' ⟨rfl, rfl⟩
    exact ⟨_, _, _, _, _, .inl ⟨he, rfl, rfl, rfl, rfl, rfl⟩, rfl, rfl⟩
end
end
section
open Go Go.SL
section
/-- The kind that is found among the first words. -/
def kdF (w : List Int) (k : Nat) : Int := if 1 ≤ wIdx wsL w ∧ wIdx wsL w < k then wIdx wsL w else 0
theorem kdF_zero (w : List Int) : kdF w 0 = 0 := by unfold kdF; rw [if_neg (by omega)]
theorem txt_end {xs : List Int} {a : Nat} (h : a = xs.length) : txtF xs a = .error (340, (a : Int)) := by unfold txtF; rw [if_pos h]
theorem txt_nil {xs t : List Int} {a : Nat} (h : ¬ a = xs.length) (ht : xs.drop (a + 1) = t) (h2 : t = []) : txtF xs a = .error (340, (a : Int) + 1) := by unfold txtF; rw [if_neg h]; simp only; rw [ht, if_pos h2]
theorem txt_long {xs t : List Int} {a : Nat} (h : ¬ a = xs.length) (ht : xs.drop (a + 1) = t) (h2 : ¬ t = []) (h3 : 48 < t.length) : txtF xs a = .error (3, (a : Int) + 1) := by unfold txtF; rw [if_neg h]; simp only; rw [ht, if_neg h2, if_pos h3]
theorem txt_odd {xs t : List Int} {a : Nat} (h : ¬ a = xs.length) (ht : xs.drop (a + 1) = t) (h2 : ¬ t = []) (h3 : ¬ 48 < t.length) (h4 : 0 ≤ oddI t) : txtF xs a = .error (340, (a : Int) + 1 + oddI t) := by unfold txtF; rw [if_neg h]; simp only; rw [ht, if_neg h2, if_neg h3, if_pos h4]
theorem txt_ok {xs t : List Int} {a : Nat} (h : ¬ a = xs.length) (ht : xs.drop (a + 1) = t) (h2 : ¬ t = []) (h3 : ¬ 48 < t.length) (h4 : ¬ 0 ≤ oddI t) : txtF xs a = .ok t := by unfold txtF; rw [if_neg h]; simp only; rw [ht, if_neg h2, if_neg h3, if_neg h4]
theorem send_err {xs : List Int} {a : Nat} {e p : Int} (hn : nextB xs (headW xs).length nameB = true) (ha : a = (headW xs).length + 1 + (partAt xs (headW xs).length).length) (h : txtF xs a = .error (e, p)) : restF xs (headW xs).length 4 = .error (e, p) := by rw [rest_4 hn, ← ha, h]
theorem wIdx_of {w x : List Int} {k : Nat} (hx : wsL[k]? = some x) : (x = w ↔ wIdx wsL w = k) := by
  constructor
  · rintro rfl
    refine wIdx_at (fun j hj q => ?_) hx
    obtain ⟨h1, e1⟩ := List.getElem?_eq_some_iff.1 q
    obtain ⟨h2, e2⟩ := List.getElem?_eq_some_iff.1 hx
    have hd : ∀ j k : Fin 8, wsL[j.val]? = wsL[k.val]? → j = k := by decide
    have h8 : wsL.length = 8 := rfl
    have := hd ⟨j, by omega⟩ ⟨k, by omega⟩ (q.trans hx.symm)
    have := congrArg Fin.val this
    simp at this
    omega
  · intro h
    have := wIdx_get h
    rw [hx] at this
    exact Option.some.inj this
theorem kdF_step {w x : List Int} {k : Nat} (hx : wsL[k]? = some x) : kdF w (k + 1) = if 0 < k ∧ x = w then (k : Int) else kdF w k := by
  have h := wIdx_of (w := w) hx
  unfold kdF
  by_cases h1 : 0 < k ∧ x = w
  · have h2 := h.1 h1.2
    rw [if_pos h1, h2, if_pos (by omega)]
  · rw [if_neg h1]
    by_cases h2 : wIdx wsL w = k
    · have h3 : ¬ 0 < k := fun q => h1 ⟨q, h.2 h2⟩
      rw [if_neg (by omega), if_neg (by omega)]
    · by_cases h3 : 1 ≤ wIdx wsL w ∧ wIdx wsL w < k
      · rw [if_pos (by omega), if_pos h3]
      · rw [if_neg (by omega), if_neg h3]
theorem kdF_all (w : List Int) : kdF w 8 = if wIdx wsL w < 1 then 0 else wIdx wsL w := by
  have h := wIdx_lt wsL w
  have h8 : wsL.length = 8 := rfl
  unfold kdF
  by_cases h1 : wIdx wsL w < 1
  · rw [if_neg (by omega), if_pos h1]
  · rw [if_pos (by omega), if_neg h1]
end
section
attribute [local irreducible] J JL JE JM LS Y Fc RV Code.wp wpList Code.wpIn wpListIn
attribute [local irreducible] Yc strOf valD dig
variable (E : World)
theorem rcommand_spec (xs : List Int) (l : List HProp) (hB : Bys xs) (hl : xs.length ≤ 1000000) :
    Fc prog E 14 [.string (strOf xs)].toArray l (fun v l' => v = .tuple #[.agg (cmE (cmdF xs).1).toArray, .agg #[.int .i64 (cmdF xs).2.1, .int .i64 (cmdF xs).2.2]] ∧ l' = l) := by
  refine Fc.eqs ?_
  obtain ⟨P, hP⟩ : ∃ P, headW xs = P := ⟨_, rfl⟩
  have hPl : P.length ≤ xs.length := by rw [← hP]; exact headW_le xs
  have hPB : Bys P := by rw [← hP]; exact headW_bys hB
  have hPt : xs.take P.length = P := by rw [← hP]; exact headW_take xs
  have hone0 := cmE_one cm0
  have hcl0 : (cmE cm0).length = i27.size := rfl
  refine Fc.of_body (c := ?codeC) Tryz.func14 ?hb Tryz.ntmps14 ?hl ?_
  case hb => exact rfl
  case hl => exact rfl
  refine J.seq ?_
  refine J.region ?_
  refine JL.loud rfl (l_alloc hT rfl rfl (by (first | rfl | simp)) rfl (fun b1 => ?_))
  refine JL.loud rfl (l_alloc hT rfl rfl (by (first | rfl | simp)) rfl (fun b2 => ?_))
  refine JL.nil ?_
  refine JE.then_normal ?_
  refine J.seq ?_
  refine J.seq ?_
  refine J.region ?_
  refine JL.step (y_move rfl) rfl rfl rfl ?_
  refine JL.step (y_lenS hT rfl rfl rfl) rfl rfl rfl ?_
  refine JL.step (y_gtr rfl rfl) rfl rfl rfl ?_
  refine JL.nil ?_
  refine JE.then_normal ?_
  first | apply J.cond_dec rfl | apply J.cond rfl
  case' ht =>
    intro h
    try (first | (exfalso; omega) | (cases h; done) | (exfalso; simp at h; done) | subst h)
    all_goals
      refine J.seq ?_
      refine J.region ?_
      refine JL.loud rfl (l_callF e38 rfl rfl (swrong_spec E 3 640 _) ?_)
      rintro _ _ ⟨rfl, rfl⟩
      refine JL.step (y_extract rfl rfl) rfl rfl rfl (JL.step (y_extract rfl rfl) rfl rfl rfl ?_)
      have hone0 := cmE_one cm0
      refine JL.loud rfl (l_storeAll hT rfl rfl rfl hcl0 hone0 (by (repeat (first | exact Pick.head | apply Pick.tail | apply Pick.app))) (by (first | rfl | assumption | (simp; done) | omega)) ?_)
      refine JL.loud rfl (l_storeAll hT rfl rfl rfl (by (first | rfl | assumption | (simp; done) | omega)) (by (first | assumption | exact ones_of rfl | exact encW_one _ | exact encB_one _ | (intro u hu; simp at hu; rcases hu with rfl | rfl <;> rfl) | (intro u hu; simp at hu; subst hu; rfl) | simp)) (by (repeat (first | exact Pick.head | apply Pick.tail | apply Pick.app))) (by (first | rfl | assumption | (simp; done) | omega)) ?_)
      refine JL.nil ?_
      refine JE.then_normal ?_
      refine J.ret ?_
      refine JE.then_ret ?_
      refine JE.ret2 (.inl rfl) rfl rfl (by (first | exact RV.tmp rfl | exact RV.cell1 hT rfl rfl rfl (by (exact Rd1.row (by (repeat (first | exact Pick.head | apply Pick.tail | apply Pick.app))) (by rfl))) | exact RV.cellN hT rfl rfl rfl (by (first | exact RdN.rowAll (by (repeat (first | exact Pick.head | apply Pick.tail | apply Pick.app))) | exact RdN.own (by (repeat (first | exact Pick.head | apply Pick.tail | apply Pick.app))))) (by (first | rfl | assumption | (simp; done) | omega)))) (by (first | exact RV.tmp rfl | exact RV.cell1 hT rfl rfl rfl (by (exact Rd1.row (by (repeat (first | exact Pick.head | apply Pick.tail | apply Pick.app))) (by rfl))) | exact RV.cellN hT rfl rfl rfl (by (first | exact RdN.rowAll (by (repeat (first | exact Pick.head | apply Pick.tail | apply Pick.app))) | exact RdN.own (by (repeat (first | exact Pick.head | apply Pick.tail | apply Pick.app))))) (by (first | rfl | assumption | (simp; done) | omega)))) ?_
      first
      | (have hcf : cmdF xs = (cm0, 3, 640) := by unfold cmdF; rw [if_pos (by omega)]
         rw [hcf]
         exact ⟨rfl, fun w h => h.sup (by (repeat (first | exact Sup.refl | apply Sup.cons (by (repeat (first | exact Pick.head | apply Pick.tail | apply Pick.app))) | apply Sup.app | apply Sup.skip | apply Sup.skips)))⟩)
      | (have zz := hn3
         have q : ¬ wIdx wsL P < 1 := fun q => by rw [if_pos q] at hK; omega
         rw [if_neg q] at hK
         rw [← hP] at hn3 hb1 hK q
         first
         | (have h9 : a1 = xs.length := by omega
            rw [cmd_error (e := 340) (p := (a1 : Int)) (by omega) q (by rw [hK]; exact send_err hn3 hb1 (txt_end h9))]
            exact ⟨rfl, fun w h => h.sup (by (repeat (first | exact Sup.refl | apply Sup.cons (by (repeat (first | exact Pick.head | apply Pick.tail | apply Pick.app))) | apply Sup.app | apply Sup.skip | apply Sup.skips)))⟩)
         | (have h9 : t = [] := of_decide_eq_true hbt.symm
            rw [cmd_error (e := 340) (p := ((a1 + 1 : Nat) : Int)) (by omega) q (by rw [hK]; exact send_err hn3 hb1 (txt_nil (by omega) ht h9))]
            exact ⟨rfl, fun w h => h.sup (by (repeat (first | exact Sup.refl | apply Sup.cons (by (repeat (first | exact Pick.head | apply Pick.tail | apply Pick.app))) | apply Sup.app | apply Sup.skip | apply Sup.skips)))⟩)
         | (have h9 : 48 < t.length := by omega
            rw [cmd_error (e := 3) (p := ((a1 + 1 : Nat) : Int)) (by omega) q (by rw [hK]; exact send_err hn3 hb1 (txt_long (by omega) ht (of_decide_eq_false hbt.symm) h9))]
            exact ⟨rfl, fun w h => h.sup (by (repeat (first | exact Sup.refl | apply Sup.cons (by (repeat (first | exact Pick.head | apply Pick.tail | apply Pick.app))) | apply Sup.app | apply Sup.skip | apply Sup.skips)))⟩)
         | (rw [cmd_error (e := 340) (p := (a1 : Int) + 1 + z) (by omega) q (by rw [hK, ← hz]; exact send_err hn3 hb1 (txt_odd (by omega) ht (of_decide_eq_false hbt.symm) (by omega) (by rw [hz]; assumption)))]
            exact ⟨rfl, fun w h => h.sup (by (repeat (first | exact Sup.refl | apply Sup.cons (by (repeat (first | exact Pick.head | apply Pick.tail | apply Pick.app))) | apply Sup.app | apply Sup.skip | apply Sup.skips)))⟩))
      | (have zz : (if wIdx wsL P < 1 then 0 else wIdx wsL P) = 0 := hK
         have hcf : cmdF xs = (cm0, 340, 0) := by
           unfold cmdF
           rw [if_neg (by omega), if_pos (by rw [hP]; refine Decidable.of_not_not fun q => ?_; rw [if_neg q] at zz; omega)]
         rw [hcf]
         exact ⟨rfl, fun w h => h.sup (by (repeat (first | exact Sup.refl | apply Sup.cons (by (repeat (first | exact Pick.head | apply Pick.tail | apply Pick.app))) | apply Sup.app | apply Sup.skip | apply Sup.skips)))⟩)
      | (have zz : ¬ e5 = 0 := by assumption
         have q : ¬ wIdx wsL P < 1 := fun q => by rw [if_pos q] at hK; omega
         rw [if_neg q] at hK
         have hE : restF xs P.length K = .error (e5, p5) := by
           rcases hF with ⟨q1, _⟩ | ⟨_, q1⟩
           · exact absurd q1 zz
           · exact q1
         rw [cmd_error (e := e5) (p := p5) (by omega) (by rw [hP]; exact q) (by rw [hP, hK]; exact hE)]
         unfold cm0
         rw [cm_zero]
         exact ⟨rfl, fun w h => h.sup (by (repeat (first | exact Sup.refl | apply Sup.cons (by (repeat (first | exact Pick.head | apply Pick.tail | apply Pick.app))) | apply Sup.app | apply Sup.skip | apply Sup.skips)))⟩)
      | (have zz : e5 = 0 := by omega
         have q : ¬ wIdx wsL P < 1 := fun q => by rw [if_pos q] at hK; omega
         rw [if_neg q] at hK
         have hE : restF xs P.length K = .ok (a5, c5) := by
           rcases hF with ⟨_, _, q1⟩ | ⟨q1, _⟩
           · exact q1
           · exact absurd zz q1
         have hC := cmd_ok (xs := xs) (a := a5) (c := c5) (by omega) (by rw [hP]; exact q) (by rw [hP, hK]; exact hE)
         first
         | (have zy : a5 < xs.length := by
              by_cases q5 : (a5 : Int) = xs.length
              · simp [q5] at h
              · omega
            rw [hC, if_pos zy]
            exact ⟨rfl, fun w h => h.sup (by (repeat (first | exact Sup.refl | apply Sup.cons (by (repeat (first | exact Pick.head | apply Pick.tail | apply Pick.app))) | apply Sup.app | apply Sup.skip | apply Sup.skips)))⟩)
         | (have zy : ¬ a5 < xs.length := by
              by_cases q5 : (a5 : Int) = xs.length
              · omega
              · simp [q5] at h
            rw [hC, if_neg zy]
            exact ⟨rfl, fun w h => h.sup (by (repeat (first | exact Sup.refl | apply Sup.cons (by (repeat (first | exact Pick.head | apply Pick.tail | apply Pick.app))) | apply Sup.app | apply Sup.skip | apply Sup.skips)))⟩))
  case' hf =>
    intro h
    try (first | (exfalso; omega) | (cases h; done) | (exfalso; simp at h; done) | subst h)
    all_goals
      refine J.skip ?_
  all_goals refine JE.then_normal ?_
  all_goals
    refine J.seq ?_
    refine J.region ?_
    refine JL.step (y_move rfl) rfl rfl rfl ?_
    refine JL.step (y_build (cs := [_, _, _, _]) hT rfl rfl rfl rfl rfl rfl ⟨⟨(by (first | rfl | assumption | (simp; done) | omega)), Nat.le_of_ble_eq_true rfl⟩, trivial⟩ rfl) rfl rfl rfl ?_
    refine JL.loud rfl (l_box rfl (by (first | rfl | simp)) rfl (fun b4 => ?_))
    refine JL.step (y_assign rfl) rfl rfl rfl ?_
    refine JL.nil ?_
    refine JE.then_normal ?_
    refine J.seqK (α := Unit) (fun _ => True) (fun _ => [(0, .string (strOf xs)), (2, .pointer (some ⟨b1, 0, none⟩)), (3, .pointer (some ⟨b2, 0, none⟩)), (4, .pointer (some ⟨b4, 0, none⟩))]) (fun _ => row b4 71 (rdE xs P.length 0 0) :: row b2 30 [.int .i64 0, .int .i64 0] :: row b1 27 (cmE cm0) :: l) ?hj6 (fun hk6 => ?hf6)
    case hf6 =>
      refine J.block ?_
      refine J.pre (l' := row b4 71 (rdE xs 0 0 0) :: row b2 30 [.int .i64 0, .int .i64 0] :: row b1 27 (cmE cm0) :: l) (fun w h => by
          unfold cm0
          rw [cm_zero]
          exact h.sup (by (repeat (first | exact Sup.refl | apply Sup.cons (by (repeat (first | exact Pick.head | apply Pick.tail | apply Pick.app))) | apply Sup.app | apply Sup.skip | apply Sup.skips)))) ?_
      refine J.loop (α := Nat) (fun i => i ≤ P.length) (fun i => [(0, .string (strOf xs)), (2, .pointer (some ⟨b1, 0, none⟩)), (3, .pointer (some ⟨b2, 0, none⟩)), (4, .pointer (some ⟨b4, 0, none⟩))]) (fun i => row b4 71 (rdE xs i 0 0) :: row b2 30 [.int .i64 0, .int .i64 0] :: row b1 27 (cmE cm0) :: l) (fun i => P.length - i) 0 (Nat.zero_le _) ⟨rfl, rfl, rfl, rfl, trivial⟩ (fun w h => h) ?_
      intro i hi
      try dsimp only
      have hmid : i < P.length → ∃ x, xs[i]? = some x ∧ x ≠ 32 := fun h => headW_in (ys := xs) (i := i) (by rw [hP]; exact h)
      have hend : ¬ i < P.length → i = xs.length ∨ xs[i]? = some 32 := fun h => by
        have h9 := headW_end (ys := xs)
        rw [hP] at h9
        rw [show i = P.length by omega]
        exact h9
      refine J.seq ?_
      refine J.seq ?_
      obtain ⟨be, hbe⟩ : ∃ b, decide (((i : Nat) : Int) = xs.length) = b := ⟨_, rfl⟩
      rcases be with _ | _
      have hlast : ¬ i = xs.length := by have := of_decide_eq_false hbe; omega
      obtain ⟨x, hx⟩ : ∃ x, xs[i]? = some x := ⟨xs[i]'(by omega), List.getElem?_eq_getElem _⟩
      obtain ⟨bx, hbx⟩ : ∃ b, decide (¬ x = 32) = b := ⟨_, rfl⟩
      rotate_left
      have hlast : i = xs.length := by have := of_decide_eq_true hbe; omega
      rotate_left
      all_goals
        refine J.region ?_
        refine JL.step (y_move rfl) rfl rfl rfl ?_
        refine JL.loud rfl (l_callF e39 rfl rfl (hbe ▸ send_spec E b4 xs i 0 0 _ _ Pick.head) ?_)
        rintro _ _ ⟨rfl, rfl⟩
        refine JL.step (y_not rfl) rfl rfl rfl (JL.step (y_move rfl) rfl rfl rfl ?_)
        all_goals (first | (refine JL.gsplit_dec rfl rfl rfl (fun h => ?_) (fun h => ?_) <;> try (first | (exfalso; omega) | exact absurd rfl h)) | (refine JL.gsplit rfl rfl rfl (fun h => ?_) (fun h => ?_) <;> try (first | cases h | (exfalso; simp at h; done))) | skip)
        all_goals (first | refine JL.gskip rfl rfl rfl rfl rfl rfl ?_ | refine JL.gskipU rfl rfl rfl rfl rfl ?_ | refine JL.gstep rfl rfl rfl (y_move rfl) rfl rfl ?_)
        all_goals (first | refine JL.gskip rfl rfl rfl rfl rfl rfl ?_ | refine JL.gskipU rfl rfl rfl rfl rfl ?_ | refine JL.gstep rfl rfl rfl (y_move rfl) rfl rfl ?_)
        all_goals (first | refine JL.gskip rfl rfl rfl rfl rfl rfl ?_ | refine JL.gskipU rfl rfl rfl rfl rfl ?_ | refine JL.gstep rfl rfl rfl ((by first | exact y_nilCheck rfl | exact y_nilCheckF rfl | exact y_nilCheckY rfl)) rfl rfl ?_)
        all_goals (first | refine JL.gskip rfl rfl rfl rfl rfl rfl ?_ | refine JL.gskipU rfl rfl rfl rfl rfl ?_ | refine JL.gstep rfl rfl rfl (y_fieldAddr hT rfl rfl rfl rfl rfl rfl) rfl rfl ?_)
        all_goals (first | refine JL.gskip rfl rfl rfl rfl rfl rfl ?_ | refine JL.gskipU rfl rfl rfl rfl rfl ?_ | refine JL.gstep rfl rfl rfl (y_load1 hT rfl rfl rfl (by (exact Rd1.row (by (repeat (first | exact Pick.head | apply Pick.tail | apply Pick.app))) (by rfl)))) rfl rfl ?_)
        all_goals (first | refine JL.gskip rfl rfl rfl rfl rfl rfl ?_ | refine JL.gskipU rfl rfl rfl rfl rfl ?_ | refine JL.gstep rfl rfl rfl (y_ixS hT hB rfl rfl rfl rfl rfl hx) rfl rfl ?_)
        all_goals (first | refine JL.gskip rfl rfl rfl rfl rfl rfl ?_ | refine JL.gskipU rfl rfl rfl rfl rfl ?_ | refine JL.gstep rfl rfl rfl (y_neqB rfl rfl hbx) rfl rfl ?_)
        all_goals (refine JL.step (y_pick rfl rfl rfl) rfl rfl rfl ?_)
        all_goals refine JL.nil ?_
      all_goals refine JE.then_normal ?_
      all_goals
        first | apply J.cond_dec rfl | apply J.cond rfl
        case' ht =>
          intro h
          try (first | (exfalso; omega) | (cases h; done) | (exfalso; simp at h; done) | subst h)
          all_goals
            refine J.skip ?_
        case' hf =>
          intro h
          try (first | (exfalso; omega) | (cases h; done) | (exfalso; simp at h; done) | subst h)
          all_goals
            refine J.exit ?_
            refine JE.then_exit ?_
            refine JE.then_exit ?_
            refine JE.block_exit ?_
            refine JE.then_normal ?_
            have hiP3 : i = P.length := by
              have h9 : ¬ i < P.length := by
                first
                | (have zz := hbx
                   intro h8
                   obtain ⟨y, hy, hy2⟩ := hmid h8
                   rw [hx] at hy
                   cases hy
                   exact hy2 (Decidable.of_not_not (of_decide_eq_false hbx)))
                | omega
              omega
            subst hiP3
            exact J.closeK hk6 () trivial ⟨rfl, rfl, rfl, rfl, trivial⟩ (fun w h => h)
      all_goals refine JE.then_normal ?_
      all_goals
        refine J.block ?_
        refine J.region ?_
        refine JL.step (y_move rfl) rfl rfl rfl ?_
        refine JL.step ((by first | exact y_nilCheck rfl | exact y_nilCheckF rfl | exact y_nilCheckY rfl)) rfl rfl rfl ?_
        refine JL.step (y_fieldAddr hT rfl rfl rfl rfl rfl rfl) rfl rfl rfl ?_
        refine JL.step (y_load1 hT rfl rfl rfl (by (exact Rd1.row (by (repeat (first | exact Pick.head | apply Pick.tail | apply Pick.app))) (by rfl)))) rfl rfl rfl ?_
        refine JL.step (y_add (m := ((i + 1 : Nat) : Int)) rfl rfl (wrap_i64 (by omega) (by omega))) rfl rfl rfl ?_
        refine JL.step ((by first | exact y_nilCheck rfl | exact y_nilCheckF rfl | exact y_nilCheckY rfl)) rfl rfl rfl ?_
        refine JL.step (y_fieldAddr hT rfl rfl rfl rfl rfl rfl) rfl rfl rfl ?_
        refine JL.loud rfl (l_store1 hT rfl rfl rfl rfl rfl (by (repeat (first | exact Pick.head | apply Pick.tail | apply Pick.app))) (by (first | omega | exact Nat.le_of_ble_eq_true rfl | decide | (simp; omega))) ?_)
        refine JL.nil ?_
        refine JE.block_normal ?_
      all_goals
        have hiP2 : i < P.length := by
          refine Decidable.of_not_not fun q => ?_
          rcases hend q with q2 | q2
          · exact hlast q2
          · rw [hx] at q2
            cases q2
            simp at hbx
        exact JE.round (s := i) (i + 1) (by omega) ⟨rfl, rfl, rfl, rfl, trivial⟩ (fun w h => h) (by omega)
    rintro _ _
    try dsimp only
    refine J.seq ?_
    refine J.region ?_
    refine JL.loud rfl (l_alloc hT rfl rfl (by (first | rfl | simp)) rfl (fun b5 => ?_))
    refine JL.nil ?_
    refine JE.then_normal ?_
    refine J.seq ?_
    refine J.seq ?_
    refine J.region ?_
    refine JL.loud rfl (l_callF e40 rfl rfl (rwords_spec E _) ?_)
    rintro _ _ ⟨wb, rfl, rfl⟩
    refine JL.step (y_len_slice hT rfl rfl rfl) rfl rfl rfl (JL.step (y_move rfl) rfl rfl rfl ?_)
    refine JL.nil ?_
    refine JE.then_normal ?_
    refine J.block ?_
    refine J.pre (l' := row wb 9 (strs wsL) :: row b5 27 (cmE ⟨kdF P 0, [], zer32, [], 0⟩) :: row b4 71 (rdE xs P.length 0 0) :: row b2 30 [.int .i64 0, .int .i64 0] :: row b1 27 (cmE cm0) :: l) (fun w h => by
        rw [kdF_zero, cm_zero]
        exact h.sup (by (repeat (first | exact Sup.refl | apply Sup.cons (by (repeat (first | exact Pick.head | apply Pick.tail | apply Pick.app))) | apply Sup.app | apply Sup.skip | apply Sup.skips)))) ?_
    refine J.loop (α := Nat) (fun k => k ≤ 8) (fun k => [(0, .string (strOf xs)), (2, .pointer (some ⟨b1, 0, none⟩)), (3, .pointer (some ⟨b2, 0, none⟩)), (4, .pointer (some ⟨b4, 0, none⟩)), (5, .pointer (some ⟨b5, 0, none⟩)), (44, .slice (some ⟨wb, 0, none⟩) 8 8), (45, .int .i64 8), (46, .int .i64 k)]) (fun k => row wb 9 (strs wsL) :: row b5 27 (cmE ⟨kdF P k, [], zer32, [], 0⟩) :: row b4 71 (rdE xs P.length 0 0) :: row b2 30 [.int .i64 0, .int .i64 0] :: row b1 27 (cmE cm0) :: l) (fun k => 8 - k) 0 (Nat.zero_le _) ⟨rfl, rfl, rfl, rfl, rfl, rfl, rfl, rfl, trivial⟩ (fun w h => h) ?_
    intro k hk
    try dsimp only
    refine J.seq ?_
    refine J.region ?_
    refine JL.step (y_lss rfl rfl) rfl rfl rfl ?_
    refine JL.nil ?_
    refine JE.then_normal ?_
    refine J.seq ?_
    first | apply J.cond_dec rfl | apply J.cond rfl
    case' ht =>
      intro h
      try (first | (exfalso; omega) | (cases h; done) | (exfalso; simp at h; done) | subst h)
      all_goals
        refine J.skip ?_
    case' hf =>
      intro h
      try (first | (exfalso; omega) | (cases h; done) | (exfalso; simp at h; done) | subst h)
      all_goals
        refine J.exit ?_
        refine JE.then_exit ?_
        refine JE.then_exit ?_
        refine JE.block_exit ?_
        refine JE.then_normal ?_
        refine J.seq ?_
        refine J.seq ?_
        obtain rfl : k = 8 := by omega
        obtain ⟨K, hK⟩ : ∃ K, kdF P 8 = K := ⟨_, rfl⟩
        rw [hK]
        rw [kdF_all] at hK
        refine J.region ?_
        refine JL.step (y_fieldAddr hT rfl rfl rfl rfl rfl rfl) rfl rfl rfl ?_
        refine JL.step (v := .int .i64 K) (y_load1 hT rfl rfl rfl (Rd1.row (by (repeat (first | exact Pick.head | apply Pick.tail | apply Pick.app))) rfl)) rfl rfl rfl ?_
        refine JL.step (y_eql rfl rfl) rfl rfl rfl ?_
        refine JL.nil ?_
        refine JE.then_normal ?_
        first | apply J.cond_dec rfl | apply J.cond rfl
        case' ht =>
          intro h
          try (first | (exfalso; omega) | (cases h; done) | (exfalso; simp at h; done) | subst h)
          all_goals
            refine J.seq ?_
            refine J.region ?_
            refine JL.loud rfl (l_callF e38 rfl rfl (swrong_spec E 340 0 _) ?_)
            rintro _ _ ⟨rfl, rfl⟩
            refine JL.step (y_extract rfl rfl) rfl rfl rfl (JL.step (y_extract rfl rfl) rfl rfl rfl ?_)
            have hone0 := cmE_one cm0
            refine JL.loud rfl (l_storeAll hT rfl rfl rfl hcl0 hone0 (by (repeat (first | exact Pick.head | apply Pick.tail | apply Pick.app))) (by (first | rfl | assumption | (simp; done) | omega)) ?_)
            refine JL.loud rfl (l_storeAll hT rfl rfl rfl (by (first | rfl | assumption | (simp; done) | omega)) (by (first | assumption | exact ones_of rfl | exact encW_one _ | exact encB_one _ | (intro u hu; simp at hu; rcases hu with rfl | rfl <;> rfl) | (intro u hu; simp at hu; subst hu; rfl) | simp)) (by (repeat (first | exact Pick.head | apply Pick.tail | apply Pick.app))) (by (first | rfl | assumption | (simp; done) | omega)) ?_)
            refine JL.nil ?_
            refine JE.then_normal ?_
            refine J.ret ?_
            refine JE.then_ret ?_
            refine JE.ret2 (.inl rfl) rfl rfl (by (first | exact RV.tmp rfl | exact RV.cell1 hT rfl rfl rfl (by (exact Rd1.row (by (repeat (first | exact Pick.head | apply Pick.tail | apply Pick.app))) (by rfl))) | exact RV.cellN hT rfl rfl rfl (by (first | exact RdN.rowAll (by (repeat (first | exact Pick.head | apply Pick.tail | apply Pick.app))) | exact RdN.own (by (repeat (first | exact Pick.head | apply Pick.tail | apply Pick.app))))) (by (first | rfl | assumption | (simp; done) | omega)))) (by (first | exact RV.tmp rfl | exact RV.cell1 hT rfl rfl rfl (by (exact Rd1.row (by (repeat (first | exact Pick.head | apply Pick.tail | apply Pick.app))) (by rfl))) | exact RV.cellN hT rfl rfl rfl (by (first | exact RdN.rowAll (by (repeat (first | exact Pick.head | apply Pick.tail | apply Pick.app))) | exact RdN.own (by (repeat (first | exact Pick.head | apply Pick.tail | apply Pick.app))))) (by (first | rfl | assumption | (simp; done) | omega)))) ?_
            first
            | (have hcf : cmdF xs = (cm0, 3, 640) := by unfold cmdF; rw [if_pos (by omega)]
               rw [hcf]
               exact ⟨rfl, fun w h => h.sup (by (repeat (first | exact Sup.refl | apply Sup.cons (by (repeat (first | exact Pick.head | apply Pick.tail | apply Pick.app))) | apply Sup.app | apply Sup.skip | apply Sup.skips)))⟩)
            | (have zz := hn3
               have q : ¬ wIdx wsL P < 1 := fun q => by rw [if_pos q] at hK; omega
               rw [if_neg q] at hK
               rw [← hP] at hn3 hb1 hK q
               first
               | (have h9 : a1 = xs.length := by omega
                  rw [cmd_error (e := 340) (p := (a1 : Int)) (by omega) q (by rw [hK]; exact send_err hn3 hb1 (txt_end h9))]
                  exact ⟨rfl, fun w h => h.sup (by (repeat (first | exact Sup.refl | apply Sup.cons (by (repeat (first | exact Pick.head | apply Pick.tail | apply Pick.app))) | apply Sup.app | apply Sup.skip | apply Sup.skips)))⟩)
               | (have h9 : t = [] := of_decide_eq_true hbt.symm
                  rw [cmd_error (e := 340) (p := ((a1 + 1 : Nat) : Int)) (by omega) q (by rw [hK]; exact send_err hn3 hb1 (txt_nil (by omega) ht h9))]
                  exact ⟨rfl, fun w h => h.sup (by (repeat (first | exact Sup.refl | apply Sup.cons (by (repeat (first | exact Pick.head | apply Pick.tail | apply Pick.app))) | apply Sup.app | apply Sup.skip | apply Sup.skips)))⟩)
               | (have h9 : 48 < t.length := by omega
                  rw [cmd_error (e := 3) (p := ((a1 + 1 : Nat) : Int)) (by omega) q (by rw [hK]; exact send_err hn3 hb1 (txt_long (by omega) ht (of_decide_eq_false hbt.symm) h9))]
                  exact ⟨rfl, fun w h => h.sup (by (repeat (first | exact Sup.refl | apply Sup.cons (by (repeat (first | exact Pick.head | apply Pick.tail | apply Pick.app))) | apply Sup.app | apply Sup.skip | apply Sup.skips)))⟩)
               | (rw [cmd_error (e := 340) (p := (a1 : Int) + 1 + z) (by omega) q (by rw [hK, ← hz]; exact send_err hn3 hb1 (txt_odd (by omega) ht (of_decide_eq_false hbt.symm) (by omega) (by rw [hz]; assumption)))]
                  exact ⟨rfl, fun w h => h.sup (by (repeat (first | exact Sup.refl | apply Sup.cons (by (repeat (first | exact Pick.head | apply Pick.tail | apply Pick.app))) | apply Sup.app | apply Sup.skip | apply Sup.skips)))⟩))
            | (have zz : (if wIdx wsL P < 1 then 0 else wIdx wsL P) = 0 := hK
               have hcf : cmdF xs = (cm0, 340, 0) := by
                 unfold cmdF
                 rw [if_neg (by omega), if_pos (by rw [hP]; refine Decidable.of_not_not fun q => ?_; rw [if_neg q] at zz; omega)]
               rw [hcf]
               exact ⟨rfl, fun w h => h.sup (by (repeat (first | exact Sup.refl | apply Sup.cons (by (repeat (first | exact Pick.head | apply Pick.tail | apply Pick.app))) | apply Sup.app | apply Sup.skip | apply Sup.skips)))⟩)
            | (have zz : ¬ e5 = 0 := by assumption
               have q : ¬ wIdx wsL P < 1 := fun q => by rw [if_pos q] at hK; omega
               rw [if_neg q] at hK
               have hE : restF xs P.length K = .error (e5, p5) := by
                 rcases hF with ⟨q1, _⟩ | ⟨_, q1⟩
                 · exact absurd q1 zz
                 · exact q1
               rw [cmd_error (e := e5) (p := p5) (by omega) (by rw [hP]; exact q) (by rw [hP, hK]; exact hE)]
               unfold cm0
               rw [cm_zero]
               exact ⟨rfl, fun w h => h.sup (by (repeat (first | exact Sup.refl | apply Sup.cons (by (repeat (first | exact Pick.head | apply Pick.tail | apply Pick.app))) | apply Sup.app | apply Sup.skip | apply Sup.skips)))⟩)
            | (have zz : e5 = 0 := by omega
               have q : ¬ wIdx wsL P < 1 := fun q => by rw [if_pos q] at hK; omega
               rw [if_neg q] at hK
               have hE : restF xs P.length K = .ok (a5, c5) := by
                 rcases hF with ⟨_, _, q1⟩ | ⟨q1, _⟩
                 · exact q1
                 · exact absurd zz q1
               have hC := cmd_ok (xs := xs) (a := a5) (c := c5) (by omega) (by rw [hP]; exact q) (by rw [hP, hK]; exact hE)
               first
               | (have zy : a5 < xs.length := by
                    by_cases q5 : (a5 : Int) = xs.length
                    · simp [q5] at h
                    · omega
                  rw [hC, if_pos zy]
                  exact ⟨rfl, fun w h => h.sup (by (repeat (first | exact Sup.refl | apply Sup.cons (by (repeat (first | exact Pick.head | apply Pick.tail | apply Pick.app))) | apply Sup.app | apply Sup.skip | apply Sup.skips)))⟩)
               | (have zy : ¬ a5 < xs.length := by
                    by_cases q5 : (a5 : Int) = xs.length
                    · omega
                    · simp [q5] at h
                  rw [hC, if_neg zy]
                  exact ⟨rfl, fun w h => h.sup (by (repeat (first | exact Sup.refl | apply Sup.cons (by (repeat (first | exact Pick.head | apply Pick.tail | apply Pick.app))) | apply Sup.app | apply Sup.skip | apply Sup.skips)))⟩))
        case' hf =>
          intro h
          try (first | (exfalso; omega) | (cases h; done) | (exfalso; simp at h; done) | subst h)
          all_goals
            refine J.skip ?_
        all_goals refine JE.then_normal ?_
        all_goals
          refine J.seqK (α := Nat × Int × Int × List Int) (NmS xs P.length K) (fun _ => [(0, .string (strOf xs)), (2, .pointer (some ⟨b1, 0, none⟩)), (3, .pointer (some ⟨b2, 0, none⟩)), (4, .pointer (some ⟨b4, 0, none⟩)), (5, .pointer (some ⟨b5, 0, none⟩))]) (fun s => row b4 71 (rdE xs s.1 s.2.1 s.2.2.1) :: row b5 27 (cmE ⟨K, s.2.2.2, zer32, [], 0⟩) :: row b2 30 [.int .i64 0, .int .i64 0] :: row b1 27 (cmE cm0) :: row wb 9 (strs wsL) :: l) ?hj17 (fun hk17 => ?hf17)
          case hf17 =>
            refine J.seq ?_
            refine J.region ?_
            refine JL.step (y_fieldAddr hT rfl rfl rfl rfl rfl rfl) rfl rfl rfl ?_
            refine JL.pre (l' := row b4 71 (rdE xs P.length 0 0) :: row b5 27 (cmE ⟨K, [], zer32, [], 0⟩) :: row b2 30 [.int .i64 0, .int .i64 0] :: row b1 27 (cmE cm0) :: row wb 9 (strs wsL) :: l) (fun w h => h.sup (by (repeat (first | exact Sup.refl | apply Sup.cons (by (repeat (first | exact Pick.head | apply Pick.tail | apply Pick.app))) | apply Sup.app | apply Sup.skip | apply Sup.skips)))) ?_
            refine JL.step (v := .int .i64 K) (y_load1 hT rfl rfl rfl (Rd1.row (by (repeat (first | exact Pick.head | apply Pick.tail | apply Pick.app))) rfl)) rfl rfl rfl ?_
            refine JL.step (y_neq rfl rfl) rfl rfl rfl (JL.step (y_move rfl) rfl rfl rfl ?_)
            all_goals (first | (refine JL.gsplit_dec rfl rfl rfl (fun h => ?_) (fun h => ?_) <;> try (first | (exfalso; omega) | exact absurd rfl h)) | (refine JL.gsplit rfl rfl rfl (fun h => ?_) (fun h => ?_) <;> try (first | cases h | (exfalso; simp at h; done))) | skip)
            all_goals (first | refine JL.gskip rfl rfl rfl rfl rfl rfl ?_ | refine JL.gskipU rfl rfl rfl rfl rfl ?_ | refine JL.gstep rfl rfl rfl (y_fieldAddr hT rfl rfl rfl rfl rfl rfl) rfl rfl ?_)
            all_goals (first | refine JL.gskip rfl rfl rfl rfl rfl rfl ?_ | refine JL.gskipU rfl rfl rfl rfl rfl ?_ | refine JL.gstep rfl rfl rfl (y_load1 (v := .int .i64 K) hT rfl rfl rfl (Rd1.row (by (repeat (first | exact Pick.head | apply Pick.tail | apply Pick.app))) rfl)) rfl rfl ?_)
            all_goals (first | refine JL.gskip rfl rfl rfl rfl rfl rfl ?_ | refine JL.gskipU rfl rfl rfl rfl rfl ?_ | refine JL.gstep rfl rfl rfl (y_neq rfl rfl) rfl rfl ?_)
            all_goals (refine JL.step (y_pick rfl rfl rfl) rfl rfl rfl ?_)
            all_goals refine JL.nil ?_
            all_goals refine JE.then_normal ?_
            all_goals
              first | apply J.cond_dec rfl | apply J.cond rfl
              case' ht =>
                intro h
                try (first | (exfalso; omega) | (cases h; done) | (exfalso; simp at h; done) | subst h)
                all_goals
                  refine J.region ?_
                  refine JL.step (y_move rfl) rfl rfl rfl ?_
                  refine JL.loud rfl (l_callF e41 rfl rfl (sname_go E b4 xs P.length _ hB hl hPl) ?_)
                  rintro v2 l2 h2
                  rcases h2 with ⟨hn2, hlt2, rfl, rfl⟩ | ⟨hn2, s2, a2, ha2, hsB2, rfl, rfl⟩
                  all_goals refine JL.step (y_fieldAddr hT rfl rfl rfl rfl rfl rfl) rfl rfl rfl ?_
                  all_goals refine JL.loud rfl (l_store1 hT rfl rfl rfl rfl rfl (by (repeat (first | exact Pick.head | apply Pick.tail | apply Pick.app))) (by rw [cmE_length rfl]; decide) ?_)
                  all_goals refine JL.nil ?_
              case' hf =>
                intro h
                try (first | (exfalso; omega) | (cases h; done) | (exfalso; simp at h; done) | subst h)
                all_goals
                  refine J.skip ?_
            all_goals refine JE.then_normal ?_
            all_goals
              first
              | (have hk13 : K = 1 ∨ K = 3 := by omega
                 exact J.closeK hk17 (P.length, 0, 0, []) ⟨hPl, Bys.nil, .inl ⟨hk13, rfl⟩⟩ ⟨rfl, rfl, rfl, rfl, rfl, trivial⟩ (fun w h => h))
              | (have zz := hlt2
                 have hk13 : ¬ (K = 1 ∨ K = 3) := by omega
                 exact J.closeK hk17 (P.length + 1 + (partAt xs P.length).length, 0, 0, partAt xs P.length) ⟨partAt_le hlt2, partAt_bys hB _, .inr (.inl ⟨hk13, hn2, rfl⟩)⟩ ⟨rfl, rfl, rfl, rfl, rfl, trivial⟩ (fun w h => h.sup (by (repeat (first | exact Sup.refl | apply Sup.cons (by (repeat (first | exact Pick.head | apply Pick.tail | apply Pick.app))) | apply Sup.app | apply Sup.skip | apply Sup.skips)))))
              | (have hk13 : ¬ (K = 1 ∨ K = 3) := by omega
                 exact J.closeK hk17 (a2, 340, nextP xs P.length, s2) ⟨ha2, hsB2, .inr (.inr ⟨hk13, hn2, rfl, rfl⟩)⟩ ⟨rfl, rfl, rfl, rfl, rfl, trivial⟩ (fun w h => h.sup (by (repeat (first | exact Sup.refl | apply Sup.cons (by (repeat (first | exact Pick.head | apply Pick.tail | apply Pick.app))) | apply Sup.app | apply Sup.skip | apply Sup.skips)))))
          rintro ⟨a1, e1, p1, nm⟩ hN
          try dsimp only
          have ha1 : a1 ≤ xs.length := hN.1
          have hnB : Bys nm := hN.2.1
          refine J.seqK (α := Nat × Int × Int × CmT) (FinS xs P.length K) (fun _ => [(0, .string (strOf xs)), (2, .pointer (some ⟨b1, 0, none⟩)), (3, .pointer (some ⟨b2, 0, none⟩)), (4, .pointer (some ⟨b4, 0, none⟩)), (5, .pointer (some ⟨b5, 0, none⟩))]) (fun s => row b4 71 (rdE xs s.1 s.2.1 s.2.2.1) :: row b5 27 (cmE s.2.2.2) :: row b2 30 [.int .i64 0, .int .i64 0] :: row b1 27 (cmE cm0) :: l) ?hj43 (fun hk43 => ?hf43)
          case hf43 =>
            refine J.seq ?_
            refine J.region ?_
            refine JL.step (y_fieldAddr hT rfl rfl rfl rfl rfl rfl) rfl rfl rfl ?_
            refine JL.step (v := .int .i64 K) (y_load1 hT rfl rfl rfl (Rd1.row (by (repeat (first | exact Pick.head | apply Pick.tail | apply Pick.app))) rfl)) rfl rfl rfl ?_
            refine JL.nil ?_
            refine JE.then_normal ?_
            refine J.block ?_
            refine J.seq ?_
            refine J.region ?_
            refine JL.step (y_eql rfl rfl) rfl rfl rfl (JL.step (y_assign rfl) rfl rfl rfl ?_)
            refine JL.nil ?_
            refine JE.then_normal ?_
            first | apply J.cond_dec rfl | apply J.cond rfl
            case' ht =>
              intro h
              try (first | (exfalso; omega) | (cases h; done) | (exfalso; simp at h; done) | subst h)
              all_goals
                refine J.seq ?_
                refine J.region ?_
                refine JL.step (y_move rfl) rfl rfl rfl ?_
                refine JL.loud rfl (l_callF e42 rfl rfl (spart_any E b4 xs a1 e1 p1 _ hB hl ha1 (nm_p hN)) ?_)
                rintro _ _ ⟨s3, at3, a3, e3, p3, hP3, rfl, rfl⟩
                have hs3 := part_bys hB ha1 hP3
                refine JL.step (y_move rfl) rfl rfl rfl (JL.step (y_extract rfl rfl) rfl rfl rfl (JL.step (y_extract rfl rfl) rfl rfl rfl (JL.step (y_assign rfl) rfl rfl rfl (JL.step (y_assign rfl) rfl rfl rfl ?_))))
                refine JL.nil ?_
                refine JE.then_normal ?_
                refine J.seq ?_
                refine J.region ?_
                refine JL.step (y_move rfl) rfl rfl rfl ?_
                refine JL.loud rfl (l_callF e43 rfl rfl (rkey_spec E s3 _ hs3.1 (by omega)) ?_)
                rintro _ _ ⟨ks, e4, p4, rfl, hkl, hky, hkn, rfl⟩
                have hkl2 : (ints .u8 ks).length = i25.size := by rw [ints_len, hkl]; rfl
                refine JL.step (y_move rfl) rfl rfl rfl (JL.step (y_extract rfl rfl) rfl rfl rfl (JL.step (y_extract rfl rfl) rfl rfl rfl ?_))
                refine JL.loud rfl (l_alloc hT rfl rfl (by (first | rfl | simp)) rfl (fun b6 => ?_))
                refine JL.loud rfl (l_alloc hT rfl rfl (by (first | rfl | simp)) rfl (fun b13 => ?_))
                refine JL.loud rfl (l_storeAll hT rfl rfl rfl hkl2 (ints_one _ _) (by (repeat (first | exact Pick.head | apply Pick.tail | apply Pick.app))) (by (first | rfl | assumption | (simp; done) | omega)) ?_)
                refine JL.loud rfl (l_storeAll hT rfl rfl rfl (by (first | rfl | assumption | (simp; done) | omega)) (by (first | assumption | exact ones_of rfl | exact encW_one _ | exact encB_one _ | (intro u hu; simp at hu; rcases hu with rfl | rfl <;> rfl) | (intro u hu; simp at hu; subst hu; rfl) | simp)) (by (repeat (first | exact Pick.head | apply Pick.tail | apply Pick.app))) (by (first | rfl | assumption | (simp; done) | omega)) ?_)
                refine JL.nil ?_
                refine JE.then_normal ?_
                refine J.seqK (α := Int × Int) (fun s => FinS xs P.length 2 (a3, s.1, s.2, ⟨2, nm, ks, [], 0⟩)) (fun _ => (10, .pointer (some ⟨b6, 0, none⟩)) :: [(0, .string (strOf xs)), (2, .pointer (some ⟨b1, 0, none⟩)), (3, .pointer (some ⟨b2, 0, none⟩)), (4, .pointer (some ⟨b4, 0, none⟩)), (5, .pointer (some ⟨b5, 0, none⟩))]) (fun s => row b6 25 (ints .u8 ks) :: row b4 71 (rdE xs a3 s.1 s.2) :: row b5 27 (cmE ⟨2, nm, zer32, [], 0⟩) :: row b2 30 [.int .i64 0, .int .i64 0] :: row b1 27 (cmE cm0) :: row wb 9 (strs wsL) :: l) ?hj23 (fun hk23 => ?hf23)
                case hf23 =>
                  refine J.seq ?_
                  refine J.region ?_
                  refine JL.step (y_move rfl) rfl rfl rfl ?_
                  refine JL.step ((by first | exact y_nilCheck rfl | exact y_nilCheckF rfl | exact y_nilCheckY rfl)) rfl rfl rfl ?_
                  refine JL.step (y_fieldAddr hT rfl rfl rfl rfl rfl rfl) rfl rfl rfl (JL.step (y_fieldAddr hT rfl rfl rfl rfl rfl rfl) rfl rfl rfl ?_)
                  refine JL.step (y_load1 hT rfl rfl rfl (by (exact Rd1.row (by (repeat (first | exact Pick.head | apply Pick.tail | apply Pick.app))) (by rfl)))) rfl rfl rfl ?_
                  refine JL.step (y_eql rfl rfl) rfl rfl rfl (JL.step (y_move rfl) rfl rfl rfl ?_)
                  all_goals (first | (refine JL.gsplit_dec rfl rfl rfl (fun h => ?_) (fun h => ?_) <;> try (first | (exfalso; omega) | exact absurd rfl h)) | (refine JL.gsplit rfl rfl rfl (fun h => ?_) (fun h => ?_) <;> try (first | cases h | (exfalso; simp at h; done))) | skip)
                  all_goals (first | refine JL.gskip rfl rfl rfl rfl rfl rfl ?_ | refine JL.gskipU rfl rfl rfl rfl rfl ?_ | refine JL.gstep rfl rfl rfl (y_fieldAddr hT rfl rfl rfl rfl rfl rfl) rfl rfl ?_)
                  all_goals (first | refine JL.gskip rfl rfl rfl rfl rfl rfl ?_ | refine JL.gskipU rfl rfl rfl rfl rfl ?_ | refine JL.gstep rfl rfl rfl (y_load1 hT rfl rfl rfl (by (exact Rd1.row (by (repeat (first | exact Pick.head | apply Pick.tail | apply Pick.app))) (by rfl)))) rfl rfl ?_)
                  all_goals (first | refine JL.gskip rfl rfl rfl rfl rfl rfl ?_ | refine JL.gskipU rfl rfl rfl rfl rfl ?_ | refine JL.gstep rfl rfl rfl (y_neq rfl rfl) rfl rfl ?_)
                  all_goals (refine JL.step (y_pick rfl rfl rfl) rfl rfl rfl ?_)
                  all_goals refine JL.nil ?_
                  all_goals refine JE.then_normal ?_
                  all_goals
                    first | apply J.cond_dec rfl | apply J.cond rfl
                    case' ht =>
                      intro h
                      try (first | (exfalso; omega) | (cases h; done) | (exfalso; simp at h; done) | subst h)
                      all_goals
                        refine J.region ?_
                        refine JL.step (y_move rfl) rfl rfl rfl (JL.step (y_move rfl) rfl rfl rfl ?_)
                        refine JL.step (y_build (cs := [_, _]) hT rfl rfl rfl rfl rfl rfl ⟨⟨(by (first | rfl | assumption | (simp; done) | omega)), Nat.le_of_ble_eq_true rfl⟩, ⟨⟨(by (first | rfl | assumption | (simp; done) | omega)), Nat.le_of_ble_eq_true rfl⟩, trivial⟩⟩ rfl) rfl rfl rfl ?_
                        refine JL.step ((by first | exact y_nilCheck rfl | exact y_nilCheckF rfl | exact y_nilCheckY rfl)) rfl rfl rfl ?_
                        refine JL.step (y_fieldAddr hT rfl rfl rfl rfl rfl rfl) rfl rfl rfl ?_
                        refine JL.loud rfl (l_storeN hT rfl rfl rfl (by (first | rfl | assumption | (simp; done) | omega)) (by (first | assumption | exact ones_of rfl | exact encW_one _ | exact encB_one _ | (intro u hu; simp at hu; rcases hu with rfl | rfl <;> rfl) | (intro u hu; simp at hu; subst hu; rfl) | simp)) (by (repeat (first | exact Pick.head | apply Pick.tail | apply Pick.app))) (by (first | omega | exact Nat.le_of_ble_eq_true rfl | decide | (simp; omega))) ?_)
                        refine JL.nil ?_
                    case' hf =>
                      intro h
                      try (first | (exfalso; omega) | (cases h; done) | (exfalso; simp at h; done) | subst h)
                      all_goals
                        refine J.skip ?_
                  all_goals refine JE.then_normal ?_
                  all_goals
                    have hkb : keyB s3 = decide (e4 = 0) := by
                      cases q : keyB s3
                      · rw [(hkn q).2]; rfl
                      · rw [(hky q).2.1]; rfl
                    have F := fin_part (t := keyB) (f := fun s => ⟨2, partAt xs P.length, keyV s, [], 0⟩) (c := ⟨2, nm, ks, [], 0⟩) hB hN (by decide) hP3 hkl (fun hn _ => rest_2 hn) (fun _ q hnm => by rw [hnm, (hky q).1])
                    first
                    | exact J.closeK hk23 (340, at3) (F.2.2 (by omega) (by rw [hkb]; exact decide_eq_false (by omega))) ⟨rfl, rfl, rfl, rfl, rfl, rfl, trivial⟩ (fun w h => h.sup (by (repeat (first | exact Sup.refl | apply Sup.cons (by (repeat (first | exact Pick.head | apply Pick.tail | apply Pick.app))) | apply Sup.app | apply Sup.skip | apply Sup.skips))))
                    | exact J.closeK hk23 (e3, p3) (by
                        by_cases q : e3 = 0
                        · exact F.2.1 q (by rw [hkb]; exact decide_eq_true (by omega))
                        · exact F.1 q) ⟨rfl, rfl, rfl, rfl, rfl, rfl, trivial⟩ (fun w h => h.sup (by (repeat (first | exact Sup.refl | apply Sup.cons (by (repeat (first | exact Pick.head | apply Pick.tail | apply Pick.app))) | apply Sup.app | apply Sup.skip | apply Sup.skips))))
                rintro ⟨e5, p5⟩ hF
                try dsimp only
                dsimp only at hF
                refine J.region ?_
                refine JL.step (y_loadN hT rfl rfl rfl (by (first | exact RdN.rowAll (by (repeat (first | exact Pick.head | apply Pick.tail | apply Pick.app))) | exact RdN.own (by (repeat (first | exact Pick.head | apply Pick.tail | apply Pick.app))))) (by (first | rfl | assumption | (simp; done) | omega))) rfl rfl rfl ?_
                refine JL.step (y_fieldAddr hT rfl rfl rfl rfl rfl rfl) rfl rfl rfl ?_
                refine JL.loud rfl (l_storeN hT rfl rfl rfl hkl2 (ints_one _ _) (by (repeat (first | exact Pick.head | apply Pick.tail | apply Pick.app))) (by rw [ints_len, hkl, cmE_length rfl]; decide) ?_)
                refine JL.nil ?_
            case' hf =>
              intro h
              try (first | (exfalso; omega) | (cases h; done) | (exfalso; simp at h; done) | subst h)
              all_goals
                refine J.seq ?_
                refine J.region ?_
                refine JL.step (y_eql rfl rfl) rfl rfl rfl (JL.step (y_assign rfl) rfl rfl rfl ?_)
                refine JL.nil ?_
                refine JE.then_normal ?_
                first | apply J.cond_dec rfl | apply J.cond rfl
                case' ht =>
                  intro h
                  try (first | (exfalso; omega) | (cases h; done) | (exfalso; simp at h; done) | subst h)
                  all_goals
                    refine J.seq ?_
                    refine J.region ?_
                    refine JL.step (y_move rfl) rfl rfl rfl ?_
                    refine JL.loud rfl (l_callF e42 rfl rfl (spart_any E b4 xs a1 e1 p1 _ hB hl ha1 (nm_p hN)) ?_)
                    rintro _ _ ⟨s3, at3, a3, e3, p3, hP3, rfl, rfl⟩
                    have hs3 := part_bys hB ha1 hP3
                    refine JL.step (y_move rfl) rfl rfl rfl (JL.step (y_extract rfl rfl) rfl rfl rfl (JL.step (y_extract rfl rfl) rfl rfl rfl (JL.step (y_assign rfl) rfl rfl rfl (JL.step (y_assign rfl) rfl rfl rfl ?_))))
                    refine JL.nil ?_
                    refine JE.then_normal ?_
                    refine J.seq ?_
                    refine J.region ?_
                    refine JL.step (y_move rfl) rfl rfl rfl ?_
                    refine JL.loud rfl (l_callF e44 rfl rfl (rnumber_spec E s3 _ hs3.1 (by omega)) ?_)
                    rintro _ _ ⟨z, rfl, hz, hzv, rfl⟩
                    refine JL.step (y_move rfl) rfl rfl rfl (JL.step (y_extract rfl rfl) rfl rfl rfl (JL.step (y_extract rfl rfl) rfl rfl rfl (JL.step (y_assign rfl) rfl rfl rfl (JL.step (y_assign rfl) rfl rfl rfl ?_))))
                    refine JL.nil ?_
                    refine JE.then_normal ?_
                    refine J.seqK (α := Int × Int) (fun s => FinS xs P.length 6 (a3, s.1, s.2, ⟨6, nm, zer32, [], z⟩)) (fun _ => (14, .int .i64 z) :: [(0, .string (strOf xs)), (2, .pointer (some ⟨b1, 0, none⟩)), (3, .pointer (some ⟨b2, 0, none⟩)), (4, .pointer (some ⟨b4, 0, none⟩)), (5, .pointer (some ⟨b5, 0, none⟩))]) (fun s => row b4 71 (rdE xs a3 s.1 s.2) :: row b5 27 (cmE ⟨6, nm, zer32, [], 0⟩) :: row b2 30 [.int .i64 0, .int .i64 0] :: row b1 27 (cmE cm0) :: row wb 9 (strs wsL) :: l) ?hj29 (fun hk29 => ?hf29)
                    case hf29 =>
                      refine J.seq ?_
                      obtain ⟨bn, hbn⟩ : ∃ b, numB s3 = b := ⟨_, rfl⟩
                      rw [hbn]
                      rcases bn with _ | _
                      all_goals
                        refine J.region ?_
                        refine JL.step (y_move rfl) rfl rfl rfl ?_
                        refine JL.step ((by first | exact y_nilCheck rfl | exact y_nilCheckF rfl | exact y_nilCheckY rfl)) rfl rfl rfl ?_
                        refine JL.step (y_fieldAddr hT rfl rfl rfl rfl rfl rfl) rfl rfl rfl (JL.step (y_fieldAddr hT rfl rfl rfl rfl rfl rfl) rfl rfl rfl ?_)
                        refine JL.step (y_load1 hT rfl rfl rfl (by (exact Rd1.row (by (repeat (first | exact Pick.head | apply Pick.tail | apply Pick.app))) (by rfl)))) rfl rfl rfl ?_
                        refine JL.step (y_eql rfl rfl) rfl rfl rfl (JL.step (y_move rfl) rfl rfl rfl ?_)
                        all_goals (first | (refine JL.gsplit_dec rfl rfl rfl (fun h => ?_) (fun h => ?_) <;> try (first | (exfalso; omega) | exact absurd rfl h)) | (refine JL.gsplit rfl rfl rfl (fun h => ?_) (fun h => ?_) <;> try (first | cases h | (exfalso; simp at h; done))) | skip)
                        all_goals (first | refine JL.gskip rfl rfl rfl rfl rfl rfl ?_ | refine JL.gskipU rfl rfl rfl rfl rfl ?_ | refine JL.gstep rfl rfl rfl (y_move rfl) rfl rfl ?_)
                        all_goals (first | refine JL.gskip rfl rfl rfl rfl rfl rfl ?_ | refine JL.gskipU rfl rfl rfl rfl rfl ?_ | refine JL.gstep rfl rfl rfl (y_not rfl) rfl rfl ?_)
                        all_goals (refine JL.step (y_pick rfl rfl rfl) rfl rfl rfl ?_)
                        all_goals refine JL.nil ?_
                      all_goals refine JE.then_normal ?_
                      all_goals
                        first | apply J.cond_dec rfl | apply J.cond rfl
                        case' ht =>
                          intro h
                          try (first | (exfalso; omega) | (cases h; done) | (exfalso; simp at h; done) | subst h)
                          all_goals
                            refine J.region ?_
                            refine JL.step (y_move rfl) rfl rfl rfl (JL.step (y_move rfl) rfl rfl rfl ?_)
                            refine JL.step (y_build (cs := [_, _]) hT rfl rfl rfl rfl rfl rfl ⟨⟨(by (first | rfl | assumption | (simp; done) | omega)), Nat.le_of_ble_eq_true rfl⟩, ⟨⟨(by (first | rfl | assumption | (simp; done) | omega)), Nat.le_of_ble_eq_true rfl⟩, trivial⟩⟩ rfl) rfl rfl rfl ?_
                            refine JL.step ((by first | exact y_nilCheck rfl | exact y_nilCheckF rfl | exact y_nilCheckY rfl)) rfl rfl rfl ?_
                            refine JL.step (y_fieldAddr hT rfl rfl rfl rfl rfl rfl) rfl rfl rfl ?_
                            refine JL.loud rfl (l_storeN hT rfl rfl rfl (by (first | rfl | assumption | (simp; done) | omega)) (by (first | assumption | exact ones_of rfl | exact encW_one _ | exact encB_one _ | (intro u hu; simp at hu; rcases hu with rfl | rfl <;> rfl) | (intro u hu; simp at hu; subst hu; rfl) | simp)) (by (repeat (first | exact Pick.head | apply Pick.tail | apply Pick.app))) (by (first | omega | exact Nat.le_of_ble_eq_true rfl | decide | (simp; omega))) ?_)
                            refine JL.nil ?_
                        case' hf =>
                          intro h
                          try (first | (exfalso; omega) | (cases h; done) | (exfalso; simp at h; done) | subst h)
                          all_goals
                            refine J.skip ?_
                      all_goals refine JE.then_normal ?_
                      all_goals
                        have F := fin_part (t := numB) (f := fun s => ⟨6, partAt xs P.length, zer32, [], valD s⟩) (c := ⟨6, nm, zer32, [], z⟩) hB hN (by decide) hP3 rfl (fun hn _ => rest_6 hn) (fun _ q hnm => by rw [hnm, hzv q])
                        first
                        | (have zz : numB s3 = false := hbn
                           have he3 : e3 = 0 := by assumption
                           exact J.closeK hk29 (340, at3) (F.2.2 he3 zz) ⟨rfl, rfl, rfl, rfl, rfl, rfl, trivial⟩ (fun w h => h.sup (by (repeat (first | exact Sup.refl | apply Sup.cons (by (repeat (first | exact Pick.head | apply Pick.tail | apply Pick.app))) | apply Sup.app | apply Sup.skip | apply Sup.skips)))))
                        | (have he3 : ¬ e3 = 0 := by assumption
                           exact J.closeK hk29 (e3, p3) (F.1 he3) ⟨rfl, rfl, rfl, rfl, rfl, rfl, trivial⟩ (fun w h => h.sup (by (repeat (first | exact Sup.refl | apply Sup.cons (by (repeat (first | exact Pick.head | apply Pick.tail | apply Pick.app))) | apply Sup.app | apply Sup.skip | apply Sup.skips)))))
                        | (have zz : numB s3 = true := hbn
                           exact J.closeK hk29 (e3, p3) (by
                            by_cases q : e3 = 0
                            · exact F.2.1 q zz
                            · exact F.1 q) ⟨rfl, rfl, rfl, rfl, rfl, rfl, trivial⟩ (fun w h => h.sup (by (repeat (first | exact Sup.refl | apply Sup.cons (by (repeat (first | exact Pick.head | apply Pick.tail | apply Pick.app))) | apply Sup.app | apply Sup.skip | apply Sup.skips)))))
                    rintro ⟨e5, p5⟩ hF
                    try dsimp only
                    dsimp only at hF
                    refine J.region ?_
                    refine JL.step (y_move rfl) rfl rfl rfl (JL.step (y_fieldAddr hT rfl rfl rfl rfl rfl rfl) rfl rfl rfl ?_)
                    refine JL.loud rfl (l_store1 hT rfl rfl rfl rfl rfl (by (repeat (first | exact Pick.head | apply Pick.tail | apply Pick.app))) (by rw [cmE_length rfl]; decide) ?_)
                    refine JL.nil ?_
                case' hf =>
                  intro h
                  try (first | (exfalso; omega) | (cases h; done) | (exfalso; simp at h; done) | subst h)
                  all_goals
                    refine J.seq ?_
                    refine J.region ?_
                    refine JL.step (y_eql rfl rfl) rfl rfl rfl (JL.step (y_assign rfl) rfl rfl rfl ?_)
                    refine JL.nil ?_
                    refine JE.then_normal ?_
                    first | apply J.cond_dec rfl | apply J.cond rfl
                    case' ht =>
                      intro h
                      try (first | (exfalso; omega) | (cases h; done) | (exfalso; simp at h; done) | subst h)
                      all_goals
                        refine J.seq ?_
                        refine J.seq ?_
                        refine J.region ?_
                        refine JL.step (y_move rfl) rfl rfl rfl ?_
                        refine JL.step ((by first | exact y_nilCheck rfl | exact y_nilCheckF rfl | exact y_nilCheckY rfl)) rfl rfl rfl ?_
                        refine JL.step (y_fieldAddr hT rfl rfl rfl rfl rfl rfl) rfl rfl rfl (JL.step (y_fieldAddr hT rfl rfl rfl rfl rfl rfl) rfl rfl rfl ?_)
                        refine JL.step (y_load1 hT rfl rfl rfl (by (exact Rd1.row (by (repeat (first | exact Pick.head | apply Pick.tail | apply Pick.app))) (by rfl)))) rfl rfl rfl ?_
                        refine JL.step (y_neq rfl rfl) rfl rfl rfl ?_
                        refine JL.nil ?_
                        refine JE.then_normal ?_
                        first | apply J.cond_dec rfl | apply J.cond rfl
                        case' ht =>
                          intro h
                          try (first | (exfalso; omega) | (cases h; done) | (exfalso; simp at h; done) | subst h)
                          all_goals
                            refine J.exit ?_
                            refine JE.then_exit ?_
                            refine JE.block_exit ?_
                            refine JE.then_normal ?_
                            first
                            | (have zz := ks
                               exact J.closeK hk43 (a3, e5, p5, ⟨2, nm, ks, [], 0⟩) hF ⟨rfl, rfl, rfl, rfl, rfl, trivial⟩ (fun w h => by
                                 have h1 := h
                                 erw [cm_put rfl ks hkl] at h1
                                 exact h1.sup (by (repeat (first | exact Sup.refl | apply Sup.cons (by (repeat (first | exact Pick.head | apply Pick.tail | apply Pick.app))) | apply Sup.app | apply Sup.skip | apply Sup.skips)))))
                            | (have zz := hzv
                               exact J.closeK hk43 (a3, e5, p5, ⟨6, nm, zer32, [], z⟩) hF ⟨rfl, rfl, rfl, rfl, rfl, trivial⟩ (fun w h => by
                                 have h1 := h
                                 erw [cm_set35 rfl z] at h1
                                 exact h1.sup (by (repeat (first | exact Sup.refl | apply Sup.cons (by (repeat (first | exact Pick.head | apply Pick.tail | apply Pick.app))) | apply Sup.app | apply Sup.skip | apply Sup.skips)))))
                            | (have zz := hc34
                               exact J.closeK hk43 (xs.length, 0, 0, ⟨4, nm, zer32, t, 0⟩) ⟨Nat.le_refl _, rfl, .inl ⟨rfl, rfl, by
                                 rw [rest_4 hn3, ← hb1, txt_ok (by omega) ht (of_decide_eq_false hbt.symm) (by omega) (by rw [hz]; omega), hnm]⟩⟩ ⟨rfl, rfl, rfl, rfl, rfl, trivial⟩ (fun w h => h.sup (by (repeat (first | exact Sup.refl | apply Sup.cons (by (repeat (first | exact Pick.head | apply Pick.tail | apply Pick.app))) | apply Sup.app | apply Sup.skip | apply Sup.skips)))))
                            | exact J.closeK hk43 (a1, e1, p1, ⟨4, nm, zer32, [], 0⟩) (fin_name hN (by omega) ha1 rfl) ⟨rfl, rfl, rfl, rfl, rfl, trivial⟩ (fun w h => h.sup (by (repeat (first | exact Sup.refl | apply Sup.cons (by (repeat (first | exact Pick.head | apply Pick.tail | apply Pick.app))) | apply Sup.app | apply Sup.skip | apply Sup.skips))))
                            | exact J.closeK hk43 (a1, e1, p1, ⟨K, nm, zer32, [], 0⟩) (fin_rest hN (by omega) (by omega) (by omega)) ⟨rfl, rfl, rfl, rfl, rfl, trivial⟩ (fun w h => h.sup (by (repeat (first | exact Sup.refl | apply Sup.cons (by (repeat (first | exact Pick.head | apply Pick.tail | apply Pick.app))) | apply Sup.app | apply Sup.skip | apply Sup.skips))))
                        case' hf =>
                          intro h
                          try (first | (exfalso; omega) | (cases h; done) | (exfalso; simp at h; done) | subst h)
                          all_goals
                            refine J.skip ?_
                        all_goals refine JE.then_normal ?_
                        all_goals
                          refine J.seq ?_
                          refine J.seq ?_
                          refine J.region ?_
                          obtain rfl : e1 = 0 := by omega
                          obtain ⟨hn3, hb1, rfl, hnm, hb⟩ := nm_good hN (by omega)
                          refine JL.step (y_move rfl) rfl rfl rfl ?_
                          refine JL.loud rfl (l_callF e39 rfl rfl (send_spec E b4 xs a1 0 0 _ _ Pick.head) ?_)
                          rintro _ _ ⟨rfl, rfl⟩
                          refine JL.nil ?_
                          refine JE.then_normal ?_
                          first | apply J.cond_dec rfl | apply J.cond rfl
                          case' ht =>
                            intro h
                            try (first | (exfalso; omega) | (cases h; done) | (exfalso; simp at h; done) | subst h)
                            all_goals
                              refine J.seq ?_
                              refine J.region ?_
                              refine JL.step (y_move rfl) rfl rfl rfl ?_
                              refine JL.step ((by first | exact y_nilCheck rfl | exact y_nilCheckF rfl | exact y_nilCheckY rfl)) rfl rfl rfl ?_
                              refine JL.step (y_fieldAddr hT rfl rfl rfl rfl rfl rfl) rfl rfl rfl ?_
                              refine JL.step (y_load1 hT rfl rfl rfl (by (exact Rd1.row (by (repeat (first | exact Pick.head | apply Pick.tail | apply Pick.app))) (by rfl)))) rfl rfl rfl ?_
                              refine JL.loud rfl (l_callF e38 rfl rfl (swrong_spec E 340 a1 _) ?_)
                              rintro _ _ ⟨rfl, rfl⟩
                              refine JL.step (y_extract rfl rfl) rfl rfl rfl (JL.step (y_extract rfl rfl) rfl rfl rfl ?_)
                              have hone0 := cmE_one cm0
                              refine JL.loud rfl (l_storeAll hT rfl rfl rfl hcl0 hone0 (by (repeat (first | exact Pick.head | apply Pick.tail | apply Pick.app))) (by (first | rfl | assumption | (simp; done) | omega)) ?_)
                              refine JL.loud rfl (l_storeAll hT rfl rfl rfl (by (first | rfl | assumption | (simp; done) | omega)) (by (first | assumption | exact ones_of rfl | exact encW_one _ | exact encB_one _ | (intro u hu; simp at hu; rcases hu with rfl | rfl <;> rfl) | (intro u hu; simp at hu; subst hu; rfl) | simp)) (by (repeat (first | exact Pick.head | apply Pick.tail | apply Pick.app))) (by (first | rfl | assumption | (simp; done) | omega)) ?_)
                              refine JL.nil ?_
                              refine JE.then_normal ?_
                              refine J.ret ?_
                              refine JE.then_ret ?_
                              refine JE.block_ret ?_
                              refine JE.then_ret ?_
                              refine JE.ret2 (.inl rfl) rfl rfl (by (first | exact RV.tmp rfl | exact RV.cell1 hT rfl rfl rfl (by (exact Rd1.row (by (repeat (first | exact Pick.head | apply Pick.tail | apply Pick.app))) (by rfl))) | exact RV.cellN hT rfl rfl rfl (by (first | exact RdN.rowAll (by (repeat (first | exact Pick.head | apply Pick.tail | apply Pick.app))) | exact RdN.own (by (repeat (first | exact Pick.head | apply Pick.tail | apply Pick.app))))) (by (first | rfl | assumption | (simp; done) | omega)))) (by (first | exact RV.tmp rfl | exact RV.cell1 hT rfl rfl rfl (by (exact Rd1.row (by (repeat (first | exact Pick.head | apply Pick.tail | apply Pick.app))) (by rfl))) | exact RV.cellN hT rfl rfl rfl (by (first | exact RdN.rowAll (by (repeat (first | exact Pick.head | apply Pick.tail | apply Pick.app))) | exact RdN.own (by (repeat (first | exact Pick.head | apply Pick.tail | apply Pick.app))))) (by (first | rfl | assumption | (simp; done) | omega)))) ?_
                              first
                              | (have hcf : cmdF xs = (cm0, 3, 640) := by unfold cmdF; rw [if_pos (by omega)]
                                 rw [hcf]
                                 exact ⟨rfl, fun w h => h.sup (by (repeat (first | exact Sup.refl | apply Sup.cons (by (repeat (first | exact Pick.head | apply Pick.tail | apply Pick.app))) | apply Sup.app | apply Sup.skip | apply Sup.skips)))⟩)
                              | (have zz := hn3
                                 have q : ¬ wIdx wsL P < 1 := fun q => by rw [if_pos q] at hK; omega
                                 rw [if_neg q] at hK
                                 rw [← hP] at hn3 hb1 hK q
                                 first
                                 | (have h9 : a1 = xs.length := by omega
                                    rw [cmd_error (e := 340) (p := (a1 : Int)) (by omega) q (by rw [hK]; exact send_err hn3 hb1 (txt_end h9))]
                                    exact ⟨rfl, fun w h => h.sup (by (repeat (first | exact Sup.refl | apply Sup.cons (by (repeat (first | exact Pick.head | apply Pick.tail | apply Pick.app))) | apply Sup.app | apply Sup.skip | apply Sup.skips)))⟩)
                                 | (have h9 : t = [] := of_decide_eq_true hbt.symm
                                    rw [cmd_error (e := 340) (p := ((a1 + 1 : Nat) : Int)) (by omega) q (by rw [hK]; exact send_err hn3 hb1 (txt_nil (by omega) ht h9))]
                                    exact ⟨rfl, fun w h => h.sup (by (repeat (first | exact Sup.refl | apply Sup.cons (by (repeat (first | exact Pick.head | apply Pick.tail | apply Pick.app))) | apply Sup.app | apply Sup.skip | apply Sup.skips)))⟩)
                                 | (have h9 : 48 < t.length := by omega
                                    rw [cmd_error (e := 3) (p := ((a1 + 1 : Nat) : Int)) (by omega) q (by rw [hK]; exact send_err hn3 hb1 (txt_long (by omega) ht (of_decide_eq_false hbt.symm) h9))]
                                    exact ⟨rfl, fun w h => h.sup (by (repeat (first | exact Sup.refl | apply Sup.cons (by (repeat (first | exact Pick.head | apply Pick.tail | apply Pick.app))) | apply Sup.app | apply Sup.skip | apply Sup.skips)))⟩)
                                 | (rw [cmd_error (e := 340) (p := (a1 : Int) + 1 + z) (by omega) q (by rw [hK, ← hz]; exact send_err hn3 hb1 (txt_odd (by omega) ht (of_decide_eq_false hbt.symm) (by omega) (by rw [hz]; assumption)))]
                                    exact ⟨rfl, fun w h => h.sup (by (repeat (first | exact Sup.refl | apply Sup.cons (by (repeat (first | exact Pick.head | apply Pick.tail | apply Pick.app))) | apply Sup.app | apply Sup.skip | apply Sup.skips)))⟩))
                              | (have zz : (if wIdx wsL P < 1 then 0 else wIdx wsL P) = 0 := hK
                                 have hcf : cmdF xs = (cm0, 340, 0) := by
                                   unfold cmdF
                                   rw [if_neg (by omega), if_pos (by rw [hP]; refine Decidable.of_not_not fun q => ?_; rw [if_neg q] at zz; omega)]
                                 rw [hcf]
                                 exact ⟨rfl, fun w h => h.sup (by (repeat (first | exact Sup.refl | apply Sup.cons (by (repeat (first | exact Pick.head | apply Pick.tail | apply Pick.app))) | apply Sup.app | apply Sup.skip | apply Sup.skips)))⟩)
                              | (have zz : ¬ e5 = 0 := by assumption
                                 have q : ¬ wIdx wsL P < 1 := fun q => by rw [if_pos q] at hK; omega
                                 rw [if_neg q] at hK
                                 have hE : restF xs P.length K = .error (e5, p5) := by
                                   rcases hF with ⟨q1, _⟩ | ⟨_, q1⟩
                                   · exact absurd q1 zz
                                   · exact q1
                                 rw [cmd_error (e := e5) (p := p5) (by omega) (by rw [hP]; exact q) (by rw [hP, hK]; exact hE)]
                                 unfold cm0
                                 rw [cm_zero]
                                 exact ⟨rfl, fun w h => h.sup (by (repeat (first | exact Sup.refl | apply Sup.cons (by (repeat (first | exact Pick.head | apply Pick.tail | apply Pick.app))) | apply Sup.app | apply Sup.skip | apply Sup.skips)))⟩)
                              | (have zz : e5 = 0 := by omega
                                 have q : ¬ wIdx wsL P < 1 := fun q => by rw [if_pos q] at hK; omega
                                 rw [if_neg q] at hK
                                 have hE : restF xs P.length K = .ok (a5, c5) := by
                                   rcases hF with ⟨_, _, q1⟩ | ⟨q1, _⟩
                                   · exact q1
                                   · exact absurd zz q1
                                 have hC := cmd_ok (xs := xs) (a := a5) (c := c5) (by omega) (by rw [hP]; exact q) (by rw [hP, hK]; exact hE)
                                 first
                                 | (have zy : a5 < xs.length := by
                                      by_cases q5 : (a5 : Int) = xs.length
                                      · simp [q5] at h
                                      · omega
                                    rw [hC, if_pos zy]
                                    exact ⟨rfl, fun w h => h.sup (by (repeat (first | exact Sup.refl | apply Sup.cons (by (repeat (first | exact Pick.head | apply Pick.tail | apply Pick.app))) | apply Sup.app | apply Sup.skip | apply Sup.skips)))⟩)
                                 | (have zy : ¬ a5 < xs.length := by
                                      by_cases q5 : (a5 : Int) = xs.length
                                      · omega
                                      · simp [q5] at h
                                    rw [hC, if_neg zy]
                                    exact ⟨rfl, fun w h => h.sup (by (repeat (first | exact Sup.refl | apply Sup.cons (by (repeat (first | exact Pick.head | apply Pick.tail | apply Pick.app))) | apply Sup.app | apply Sup.skip | apply Sup.skips)))⟩))
                          case' hf =>
                            intro h
                            try (first | (exfalso; omega) | (cases h; done) | (exfalso; simp at h; done) | subst h)
                            all_goals
                              refine J.skip ?_
                          all_goals refine JE.then_normal ?_
                          all_goals
                            refine J.seq ?_
                            have hlt : a1 < xs.length := by omega
                            obtain ⟨t, ht⟩ : ∃ t, xs.drop (a1 + 1) = t := ⟨_, rfl⟩
                            have htl : t.length = xs.length - (a1 + 1) := by rw [← ht, List.length_drop]
                            have htB : Bys t := by rw [← ht]; exact hB.drop _
                            obtain ⟨bt, hbt⟩ : ∃ b, b = decide (t = []) := ⟨_, rfl⟩
                            have hc34 : (cmE ⟨4, nm, zer32, t, 0⟩)[34]? = some (.string (strOf t)) := cm_at34 (c := ⟨4, nm, zer32, t, 0⟩) rfl
                            refine J.region ?_
                            refine JL.step (y_move rfl) rfl rfl rfl ?_
                            refine JL.step ((by first | exact y_nilCheck rfl | exact y_nilCheckF rfl | exact y_nilCheckY rfl)) rfl rfl rfl ?_
                            refine JL.step (y_fieldAddr hT rfl rfl rfl rfl rfl rfl) rfl rfl rfl ?_
                            refine JL.step (y_load1 hT rfl rfl rfl (by (exact Rd1.row (by (repeat (first | exact Pick.head | apply Pick.tail | apply Pick.app))) (by rfl)))) rfl rfl rfl ?_
                            refine JL.step (y_add (m := ((a1 + 1 : Nat) : Int)) rfl rfl (wrap_i64 (by omega) (by omega))) rfl rfl rfl ?_
                            refine JL.step ((by first | exact y_nilCheck rfl | exact y_nilCheckF rfl | exact y_nilCheckY rfl)) rfl rfl rfl ?_
                            refine JL.step (y_fieldAddr hT rfl rfl rfl rfl rfl rfl) rfl rfl rfl ?_
                            refine JL.loud rfl (l_store1 hT rfl rfl rfl rfl rfl (by (repeat (first | exact Pick.head | apply Pick.tail | apply Pick.app))) (by (first | omega | exact Nat.le_of_ble_eq_true rfl | decide | (simp; omega))) ?_)
                            refine JL.nil ?_
                            refine JE.then_normal ?_
                            refine J.seq ?_
                            refine J.region ?_
                            refine JL.step (y_move rfl) rfl rfl rfl (JL.step (y_move rfl) rfl rfl rfl ?_)
                            refine JL.step ((by first | exact y_nilCheck rfl | exact y_nilCheckF rfl | exact y_nilCheckY rfl)) rfl rfl rfl ?_
                            refine JL.step (y_fieldAddr hT rfl rfl rfl rfl rfl rfl) rfl rfl rfl ?_
                            refine JL.step (y_load1 hT rfl rfl rfl (by (exact Rd1.row (by (repeat (first | exact Pick.head | apply Pick.tail | apply Pick.app))) (by rfl)))) rfl rfl rfl ?_
                            refine JL.step (y_cutS (lo := a1 + 1) (hi := xs.length) hT hB rfl rfl rfl (.inr ⟨_, _, _, rfl, rfl, rfl⟩) (.inl ⟨rfl, rfl⟩) (by omega) (Nat.le_refl _)) rfl rfl rfl ?_
                            rw [List.take_length, ht]
                            refine JL.step (y_fieldAddr hT rfl rfl rfl rfl rfl rfl) rfl rfl rfl ?_
                            refine JL.loud rfl (l_store1 hT rfl rfl rfl rfl rfl (by (repeat (first | exact Pick.head | apply Pick.tail | apply Pick.app))) (by rw [cmE_length rfl]; decide) ?_)
                            refine JL.pre (l' := row b4 71 (rdE xs (a1 + 1) 0 0) :: row b5 27 (cmE ⟨4, nm, zer32, t, 0⟩) :: row b2 30 [.int .i64 0, .int .i64 0] :: row b1 27 (cmE cm0) :: row wb 9 (strs wsL) :: l) (fun w h => by
                              have h1 := h
                              erw [cm_set34 rfl t] at h1
                              exact h1.sup (by (repeat (first | exact Sup.refl | apply Sup.cons (by (repeat (first | exact Pick.head | apply Pick.tail | apply Pick.app))) | apply Sup.app | apply Sup.skip | apply Sup.skips)))) ?_
                            refine JL.nil ?_
                            refine JE.then_normal ?_
                            refine J.seq ?_
                            refine J.block ?_
                            refine J.seq ?_
                            refine J.region ?_
                            refine JL.step (y_fieldAddr hT rfl rfl rfl rfl rfl rfl) rfl rfl rfl ?_
                            refine JL.step (y_load1 hT rfl rfl rfl (Rd1.row (by (repeat (first | exact Pick.head | apply Pick.tail | apply Pick.app))) hc34)) rfl rfl rfl ?_
                            refine JL.step (y_eqS (ys := []) (b := bt) htB Bys.nil rfl (by unfold strOf; rfl) hbt) rfl rfl rfl ?_
                            refine JL.step (y_assign rfl) rfl rfl rfl ?_
                            refine JL.nil ?_
                            refine JE.then_normal ?_
                            first | apply J.cond_dec rfl | apply J.cond rfl
                            case' ht =>
                              intro h
                              try (first | (exfalso; omega) | (cases h; done) | (exfalso; simp at h; done) | subst h)
                              all_goals
                                refine J.seq ?_
                                refine J.region ?_
                                refine JL.step (y_move rfl) rfl rfl rfl ?_
                                refine JL.step ((by first | exact y_nilCheck rfl | exact y_nilCheckF rfl | exact y_nilCheckY rfl)) rfl rfl rfl ?_
                                refine JL.step (y_fieldAddr hT rfl rfl rfl rfl rfl rfl) rfl rfl rfl ?_
                                refine JL.step (y_load1 hT rfl rfl rfl (by (exact Rd1.row (by (repeat (first | exact Pick.head | apply Pick.tail | apply Pick.app))) (by rfl)))) rfl rfl rfl ?_
                                refine JL.loud rfl (l_callF e38 rfl rfl (swrong_spec E 340 ((a1 + 1 : Nat) : Int) _) ?_)
                                rintro _ _ ⟨rfl, rfl⟩
                                refine JL.step (y_extract rfl rfl) rfl rfl rfl (JL.step (y_extract rfl rfl) rfl rfl rfl ?_)
                                have hone0 := cmE_one cm0
                                refine JL.loud rfl (l_storeAll hT rfl rfl rfl hcl0 hone0 (by (repeat (first | exact Pick.head | apply Pick.tail | apply Pick.app))) (by (first | rfl | assumption | (simp; done) | omega)) ?_)
                                refine JL.loud rfl (l_storeAll hT rfl rfl rfl (by (first | rfl | assumption | (simp; done) | omega)) (by (first | assumption | exact ones_of rfl | exact encW_one _ | exact encB_one _ | (intro u hu; simp at hu; rcases hu with rfl | rfl <;> rfl) | (intro u hu; simp at hu; subst hu; rfl) | simp)) (by (repeat (first | exact Pick.head | apply Pick.tail | apply Pick.app))) (by (first | rfl | assumption | (simp; done) | omega)) ?_)
                                refine JL.nil ?_
                                refine JE.then_normal ?_
                                refine J.ret ?_
                                refine JE.block_ret ?_
                                refine JE.then_ret ?_
                                refine JE.block_ret ?_
                                refine JE.then_ret ?_
                                refine JE.ret2 (.inl rfl) rfl rfl (by (first | exact RV.tmp rfl | exact RV.cell1 hT rfl rfl rfl (by (exact Rd1.row (by (repeat (first | exact Pick.head | apply Pick.tail | apply Pick.app))) (by rfl))) | exact RV.cellN hT rfl rfl rfl (by (first | exact RdN.rowAll (by (repeat (first | exact Pick.head | apply Pick.tail | apply Pick.app))) | exact RdN.own (by (repeat (first | exact Pick.head | apply Pick.tail | apply Pick.app))))) (by (first | rfl | assumption | (simp; done) | omega)))) (by (first | exact RV.tmp rfl | exact RV.cell1 hT rfl rfl rfl (by (exact Rd1.row (by (repeat (first | exact Pick.head | apply Pick.tail | apply Pick.app))) (by rfl))) | exact RV.cellN hT rfl rfl rfl (by (first | exact RdN.rowAll (by (repeat (first | exact Pick.head | apply Pick.tail | apply Pick.app))) | exact RdN.own (by (repeat (first | exact Pick.head | apply Pick.tail | apply Pick.app))))) (by (first | rfl | assumption | (simp; done) | omega)))) ?_
                                first
                                | (have hcf : cmdF xs = (cm0, 3, 640) := by unfold cmdF; rw [if_pos (by omega)]
                                   rw [hcf]
                                   exact ⟨rfl, fun w h => h.sup (by (repeat (first | exact Sup.refl | apply Sup.cons (by (repeat (first | exact Pick.head | apply Pick.tail | apply Pick.app))) | apply Sup.app | apply Sup.skip | apply Sup.skips)))⟩)
                                | (have zz := hn3
                                   have q : ¬ wIdx wsL P < 1 := fun q => by rw [if_pos q] at hK; omega
                                   rw [if_neg q] at hK
                                   rw [← hP] at hn3 hb1 hK q
                                   first
                                   | (have h9 : a1 = xs.length := by omega
                                      rw [cmd_error (e := 340) (p := (a1 : Int)) (by omega) q (by rw [hK]; exact send_err hn3 hb1 (txt_end h9))]
                                      exact ⟨rfl, fun w h => h.sup (by (repeat (first | exact Sup.refl | apply Sup.cons (by (repeat (first | exact Pick.head | apply Pick.tail | apply Pick.app))) | apply Sup.app | apply Sup.skip | apply Sup.skips)))⟩)
                                   | (have h9 : t = [] := of_decide_eq_true hbt.symm
                                      rw [cmd_error (e := 340) (p := ((a1 + 1 : Nat) : Int)) (by omega) q (by rw [hK]; exact send_err hn3 hb1 (txt_nil (by omega) ht h9))]
                                      exact ⟨rfl, fun w h => h.sup (by (repeat (first | exact Sup.refl | apply Sup.cons (by (repeat (first | exact Pick.head | apply Pick.tail | apply Pick.app))) | apply Sup.app | apply Sup.skip | apply Sup.skips)))⟩)
                                   | (have h9 : 48 < t.length := by omega
                                      rw [cmd_error (e := 3) (p := ((a1 + 1 : Nat) : Int)) (by omega) q (by rw [hK]; exact send_err hn3 hb1 (txt_long (by omega) ht (of_decide_eq_false hbt.symm) h9))]
                                      exact ⟨rfl, fun w h => h.sup (by (repeat (first | exact Sup.refl | apply Sup.cons (by (repeat (first | exact Pick.head | apply Pick.tail | apply Pick.app))) | apply Sup.app | apply Sup.skip | apply Sup.skips)))⟩)
                                   | (rw [cmd_error (e := 340) (p := (a1 : Int) + 1 + z) (by omega) q (by rw [hK, ← hz]; exact send_err hn3 hb1 (txt_odd (by omega) ht (of_decide_eq_false hbt.symm) (by omega) (by rw [hz]; assumption)))]
                                      exact ⟨rfl, fun w h => h.sup (by (repeat (first | exact Sup.refl | apply Sup.cons (by (repeat (first | exact Pick.head | apply Pick.tail | apply Pick.app))) | apply Sup.app | apply Sup.skip | apply Sup.skips)))⟩))
                                | (have zz : (if wIdx wsL P < 1 then 0 else wIdx wsL P) = 0 := hK
                                   have hcf : cmdF xs = (cm0, 340, 0) := by
                                     unfold cmdF
                                     rw [if_neg (by omega), if_pos (by rw [hP]; refine Decidable.of_not_not fun q => ?_; rw [if_neg q] at zz; omega)]
                                   rw [hcf]
                                   exact ⟨rfl, fun w h => h.sup (by (repeat (first | exact Sup.refl | apply Sup.cons (by (repeat (first | exact Pick.head | apply Pick.tail | apply Pick.app))) | apply Sup.app | apply Sup.skip | apply Sup.skips)))⟩)
                                | (have zz : ¬ e5 = 0 := by assumption
                                   have q : ¬ wIdx wsL P < 1 := fun q => by rw [if_pos q] at hK; omega
                                   rw [if_neg q] at hK
                                   have hE : restF xs P.length K = .error (e5, p5) := by
                                     rcases hF with ⟨q1, _⟩ | ⟨_, q1⟩
                                     · exact absurd q1 zz
                                     · exact q1
                                   rw [cmd_error (e := e5) (p := p5) (by omega) (by rw [hP]; exact q) (by rw [hP, hK]; exact hE)]
                                   unfold cm0
                                   rw [cm_zero]
                                   exact ⟨rfl, fun w h => h.sup (by (repeat (first | exact Sup.refl | apply Sup.cons (by (repeat (first | exact Pick.head | apply Pick.tail | apply Pick.app))) | apply Sup.app | apply Sup.skip | apply Sup.skips)))⟩)
                                | (have zz : e5 = 0 := by omega
                                   have q : ¬ wIdx wsL P < 1 := fun q => by rw [if_pos q] at hK; omega
                                   rw [if_neg q] at hK
                                   have hE : restF xs P.length K = .ok (a5, c5) := by
                                     rcases hF with ⟨_, _, q1⟩ | ⟨q1, _⟩
                                     · exact q1
                                     · exact absurd zz q1
                                   have hC := cmd_ok (xs := xs) (a := a5) (c := c5) (by omega) (by rw [hP]; exact q) (by rw [hP, hK]; exact hE)
                                   first
                                   | (have zy : a5 < xs.length := by
                                        by_cases q5 : (a5 : Int) = xs.length
                                        · simp [q5] at h
                                        · omega
                                      rw [hC, if_pos zy]
                                      exact ⟨rfl, fun w h => h.sup (by (repeat (first | exact Sup.refl | apply Sup.cons (by (repeat (first | exact Pick.head | apply Pick.tail | apply Pick.app))) | apply Sup.app | apply Sup.skip | apply Sup.skips)))⟩)
                                   | (have zy : ¬ a5 < xs.length := by
                                        by_cases q5 : (a5 : Int) = xs.length
                                        · omega
                                        · simp [q5] at h
                                      rw [hC, if_neg zy]
                                      exact ⟨rfl, fun w h => h.sup (by (repeat (first | exact Sup.refl | apply Sup.cons (by (repeat (first | exact Pick.head | apply Pick.tail | apply Pick.app))) | apply Sup.app | apply Sup.skip | apply Sup.skips)))⟩))
                            case' hf =>
                              intro h
                              try (first | (exfalso; omega) | (cases h; done) | (exfalso; simp at h; done) | subst h)
                              all_goals
                                refine J.seq ?_
                                refine J.region ?_
                                refine JL.step (y_fieldAddr hT rfl rfl rfl rfl rfl rfl) rfl rfl rfl ?_
                                refine JL.step (y_load1 hT rfl rfl rfl (Rd1.row (by (repeat (first | exact Pick.head | apply Pick.tail | apply Pick.app))) hc34)) rfl rfl rfl ?_
                                refine JL.step (y_lenS hT rfl rfl rfl) rfl rfl rfl ?_
                                refine JL.step (y_gtr rfl rfl) rfl rfl rfl (JL.step (y_assign rfl) rfl rfl rfl ?_)
                                refine JL.nil ?_
                                refine JE.then_normal ?_
                                first | apply J.cond_dec rfl | apply J.cond rfl
                                case' ht =>
                                  intro h
                                  try (first | (exfalso; omega) | (cases h; done) | (exfalso; simp at h; done) | subst h)
                                  all_goals
                                    refine J.seq ?_
                                    refine J.region ?_
                                    refine JL.step (y_move rfl) rfl rfl rfl ?_
                                    refine JL.step ((by first | exact y_nilCheck rfl | exact y_nilCheckF rfl | exact y_nilCheckY rfl)) rfl rfl rfl ?_
                                    refine JL.step (y_fieldAddr hT rfl rfl rfl rfl rfl rfl) rfl rfl rfl ?_
                                    refine JL.step (y_load1 hT rfl rfl rfl (by (exact Rd1.row (by (repeat (first | exact Pick.head | apply Pick.tail | apply Pick.app))) (by rfl)))) rfl rfl rfl ?_
                                    refine JL.loud rfl (l_callF e38 rfl rfl (swrong_spec E 3 ((a1 + 1 : Nat) : Int) _) ?_)
                                    rintro _ _ ⟨rfl, rfl⟩
                                    refine JL.step (y_extract rfl rfl) rfl rfl rfl (JL.step (y_extract rfl rfl) rfl rfl rfl ?_)
                                    have hone0 := cmE_one cm0
                                    refine JL.loud rfl (l_storeAll hT rfl rfl rfl hcl0 hone0 (by (repeat (first | exact Pick.head | apply Pick.tail | apply Pick.app))) (by (first | rfl | assumption | (simp; done) | omega)) ?_)
                                    refine JL.loud rfl (l_storeAll hT rfl rfl rfl (by (first | rfl | assumption | (simp; done) | omega)) (by (first | assumption | exact ones_of rfl | exact encW_one _ | exact encB_one _ | (intro u hu; simp at hu; rcases hu with rfl | rfl <;> rfl) | (intro u hu; simp at hu; subst hu; rfl) | simp)) (by (repeat (first | exact Pick.head | apply Pick.tail | apply Pick.app))) (by (first | rfl | assumption | (simp; done) | omega)) ?_)
                                    refine JL.nil ?_
                                    refine JE.then_normal ?_
                                    refine J.ret ?_
                                    refine JE.block_ret ?_
                                    refine JE.then_ret ?_
                                    refine JE.block_ret ?_
                                    refine JE.then_ret ?_
                                    refine JE.ret2 (.inl rfl) rfl rfl (by (first | exact RV.tmp rfl | exact RV.cell1 hT rfl rfl rfl (by (exact Rd1.row (by (repeat (first | exact Pick.head | apply Pick.tail | apply Pick.app))) (by rfl))) | exact RV.cellN hT rfl rfl rfl (by (first | exact RdN.rowAll (by (repeat (first | exact Pick.head | apply Pick.tail | apply Pick.app))) | exact RdN.own (by (repeat (first | exact Pick.head | apply Pick.tail | apply Pick.app))))) (by (first | rfl | assumption | (simp; done) | omega)))) (by (first | exact RV.tmp rfl | exact RV.cell1 hT rfl rfl rfl (by (exact Rd1.row (by (repeat (first | exact Pick.head | apply Pick.tail | apply Pick.app))) (by rfl))) | exact RV.cellN hT rfl rfl rfl (by (first | exact RdN.rowAll (by (repeat (first | exact Pick.head | apply Pick.tail | apply Pick.app))) | exact RdN.own (by (repeat (first | exact Pick.head | apply Pick.tail | apply Pick.app))))) (by (first | rfl | assumption | (simp; done) | omega)))) ?_
                                    first
                                    | (have hcf : cmdF xs = (cm0, 3, 640) := by unfold cmdF; rw [if_pos (by omega)]
                                       rw [hcf]
                                       exact ⟨rfl, fun w h => h.sup (by (repeat (first | exact Sup.refl | apply Sup.cons (by (repeat (first | exact Pick.head | apply Pick.tail | apply Pick.app))) | apply Sup.app | apply Sup.skip | apply Sup.skips)))⟩)
                                    | (have zz := hn3
                                       have q : ¬ wIdx wsL P < 1 := fun q => by rw [if_pos q] at hK; omega
                                       rw [if_neg q] at hK
                                       rw [← hP] at hn3 hb1 hK q
                                       first
                                       | (have h9 : a1 = xs.length := by omega
                                          rw [cmd_error (e := 340) (p := (a1 : Int)) (by omega) q (by rw [hK]; exact send_err hn3 hb1 (txt_end h9))]
                                          exact ⟨rfl, fun w h => h.sup (by (repeat (first | exact Sup.refl | apply Sup.cons (by (repeat (first | exact Pick.head | apply Pick.tail | apply Pick.app))) | apply Sup.app | apply Sup.skip | apply Sup.skips)))⟩)
                                       | (have h9 : t = [] := of_decide_eq_true hbt.symm
                                          rw [cmd_error (e := 340) (p := ((a1 + 1 : Nat) : Int)) (by omega) q (by rw [hK]; exact send_err hn3 hb1 (txt_nil (by omega) ht h9))]
                                          exact ⟨rfl, fun w h => h.sup (by (repeat (first | exact Sup.refl | apply Sup.cons (by (repeat (first | exact Pick.head | apply Pick.tail | apply Pick.app))) | apply Sup.app | apply Sup.skip | apply Sup.skips)))⟩)
                                       | (have h9 : 48 < t.length := by omega
                                          rw [cmd_error (e := 3) (p := ((a1 + 1 : Nat) : Int)) (by omega) q (by rw [hK]; exact send_err hn3 hb1 (txt_long (by omega) ht (of_decide_eq_false hbt.symm) h9))]
                                          exact ⟨rfl, fun w h => h.sup (by (repeat (first | exact Sup.refl | apply Sup.cons (by (repeat (first | exact Pick.head | apply Pick.tail | apply Pick.app))) | apply Sup.app | apply Sup.skip | apply Sup.skips)))⟩)
                                       | (rw [cmd_error (e := 340) (p := (a1 : Int) + 1 + z) (by omega) q (by rw [hK, ← hz]; exact send_err hn3 hb1 (txt_odd (by omega) ht (of_decide_eq_false hbt.symm) (by omega) (by rw [hz]; assumption)))]
                                          exact ⟨rfl, fun w h => h.sup (by (repeat (first | exact Sup.refl | apply Sup.cons (by (repeat (first | exact Pick.head | apply Pick.tail | apply Pick.app))) | apply Sup.app | apply Sup.skip | apply Sup.skips)))⟩))
                                    | (have zz : (if wIdx wsL P < 1 then 0 else wIdx wsL P) = 0 := hK
                                       have hcf : cmdF xs = (cm0, 340, 0) := by
                                         unfold cmdF
                                         rw [if_neg (by omega), if_pos (by rw [hP]; refine Decidable.of_not_not fun q => ?_; rw [if_neg q] at zz; omega)]
                                       rw [hcf]
                                       exact ⟨rfl, fun w h => h.sup (by (repeat (first | exact Sup.refl | apply Sup.cons (by (repeat (first | exact Pick.head | apply Pick.tail | apply Pick.app))) | apply Sup.app | apply Sup.skip | apply Sup.skips)))⟩)
                                    | (have zz : ¬ e5 = 0 := by assumption
                                       have q : ¬ wIdx wsL P < 1 := fun q => by rw [if_pos q] at hK; omega
                                       rw [if_neg q] at hK
                                       have hE : restF xs P.length K = .error (e5, p5) := by
                                         rcases hF with ⟨q1, _⟩ | ⟨_, q1⟩
                                         · exact absurd q1 zz
                                         · exact q1
                                       rw [cmd_error (e := e5) (p := p5) (by omega) (by rw [hP]; exact q) (by rw [hP, hK]; exact hE)]
                                       unfold cm0
                                       rw [cm_zero]
                                       exact ⟨rfl, fun w h => h.sup (by (repeat (first | exact Sup.refl | apply Sup.cons (by (repeat (first | exact Pick.head | apply Pick.tail | apply Pick.app))) | apply Sup.app | apply Sup.skip | apply Sup.skips)))⟩)
                                    | (have zz : e5 = 0 := by omega
                                       have q : ¬ wIdx wsL P < 1 := fun q => by rw [if_pos q] at hK; omega
                                       rw [if_neg q] at hK
                                       have hE : restF xs P.length K = .ok (a5, c5) := by
                                         rcases hF with ⟨_, _, q1⟩ | ⟨q1, _⟩
                                         · exact q1
                                         · exact absurd zz q1
                                       have hC := cmd_ok (xs := xs) (a := a5) (c := c5) (by omega) (by rw [hP]; exact q) (by rw [hP, hK]; exact hE)
                                       first
                                       | (have zy : a5 < xs.length := by
                                            by_cases q5 : (a5 : Int) = xs.length
                                            · simp [q5] at h
                                            · omega
                                          rw [hC, if_pos zy]
                                          exact ⟨rfl, fun w h => h.sup (by (repeat (first | exact Sup.refl | apply Sup.cons (by (repeat (first | exact Pick.head | apply Pick.tail | apply Pick.app))) | apply Sup.app | apply Sup.skip | apply Sup.skips)))⟩)
                                       | (have zy : ¬ a5 < xs.length := by
                                            by_cases q5 : (a5 : Int) = xs.length
                                            · omega
                                            · simp [q5] at h
                                          rw [hC, if_neg zy]
                                          exact ⟨rfl, fun w h => h.sup (by (repeat (first | exact Sup.refl | apply Sup.cons (by (repeat (first | exact Pick.head | apply Pick.tail | apply Pick.app))) | apply Sup.app | apply Sup.skip | apply Sup.skips)))⟩))
                                case' hf =>
                                  intro h
                                  try (first | (exfalso; omega) | (cases h; done) | (exfalso; simp at h; done) | subst h)
                                  all_goals
                                    refine J.seq ?_
                                    refine J.region ?_
                                    refine JL.step (y_fieldAddr hT rfl rfl rfl rfl rfl rfl) rfl rfl rfl ?_
                                    refine JL.step (y_load1 hT rfl rfl rfl (Rd1.row (by (repeat (first | exact Pick.head | apply Pick.tail | apply Pick.app))) hc34)) rfl rfl rfl ?_
                                    refine JL.loud rfl (l_callF e45 rfl rfl (rodd_spec E t _ htB (by omega)) ?_)
                                    rintro _ _ ⟨rfl, rfl⟩
                                    obtain ⟨z, hz⟩ : ∃ z, oddI t = z := ⟨_, rfl⟩
                                    have hz9 : z ≤ 1000000 := by
                                      rw [← hz]
                                      unfold oddI
                                      split
                                      · have h1 := (List.takeWhile_prefix (fun x => !oddB x) (l := t)).length_le
                                        omega
                                      · decide
                                    rw [hz]
                                    refine JL.step (y_geq rfl rfl) rfl rfl rfl (JL.step (y_assign rfl) rfl rfl rfl ?_)
                                    refine JL.nil ?_
                                    refine JE.then_normal ?_
                                    first | apply J.cond_dec rfl | apply J.cond rfl
                                    case' ht =>
                                      intro h
                                      try (first | (exfalso; omega) | (cases h; done) | (exfalso; simp at h; done) | subst h)
                                      all_goals
                                        refine J.seq ?_
                                        refine J.draw _ _ [(0, .q), (1, .q), (2, .q), (3, .q), (4, .q), (5, .q), (6, .l), (7, .q), (8, .l), (9, .q), (10, .q), (11, .l), (12, .l)] mixed (by kernel_rfl) (Split.cons (Pick.tail (Pick.tail Pick.head)) (Split.cons (Pick.tail (Pick.tail Pick.head)) (Split.nil))) ?_
                                        refine JM.quiet rfl rfl rfl rfl (fun m => y_move rfl) ?_
                                        refine JM.quiet rfl rfl rfl rfl (fun m => (by first | exact y_nilCheck rfl | exact y_nilCheckF rfl | exact y_nilCheckY rfl)) ?_
                                        refine JM.quiet rfl rfl rfl rfl (fun m => y_fieldAddr hT rfl rfl rfl rfl rfl rfl) ?_
                                        refine JM.quiet rfl rfl rfl rfl (fun m => y_load1 hT rfl rfl rfl (by (exact Rd1.row (Pick.app m (by (repeat (first | exact Pick.head | apply Pick.tail | apply Pick.app)))) (by rfl)))) ?_
                                        refine JM.quiet rfl rfl rfl rfl (fun m => y_fieldAddr hT rfl rfl rfl rfl rfl rfl) ?_
                                        refine JM.quiet rfl rfl rfl rfl (fun m => y_load1 hT rfl rfl rfl (Rd1.row (Pick.app m (by (repeat (first | exact Pick.head | apply Pick.tail | apply Pick.app)))) hc34)) ?_
                                        refine JM.loud rfl rfl (fun fr => l_callF e45 rfl rfl (hz ▸ rodd_spec E t _ htB (by omega)) ?_)
                                        rintro _ _ ⟨rfl, rfl⟩
                                        refine ⟨[_, _], (by (repeat (first | exact Split.nil | exact Split.all | refine Split.cons Pick.head ?_))), ?_⟩
                                        refine JM.quiet rfl rfl rfl rfl (fun m => y_add (m := (a1 : Int) + 1 + z) rfl rfl (by rw [IntKind.wrap_i64]; omega)) ?_
                                        refine JM.loud rfl rfl (fun fr => l_callF e38 rfl rfl (swrong_spec E 340 ((a1 : Int) + 1 + z) _) ?_)
                                        rintro _ _ ⟨rfl, rfl⟩
                                        refine ⟨[_, _], (by (repeat (first | exact Split.nil | exact Split.all | refine Split.cons Pick.head ?_))), ?_⟩
                                        refine JM.quiet rfl rfl rfl rfl (fun m => y_extract rfl rfl) ?_
                                        refine JM.quiet rfl rfl rfl rfl (fun m => y_extract rfl rfl) ?_
                                        refine JM.loud rfl rfl (fun fr => l_storeAll hT rfl rfl rfl (by (first | rfl | assumption | (simp; done) | omega)) (by (first | assumption | exact ones_of rfl | exact encW_one _ | exact encB_one _ | (intro u hu; simp at hu; rcases hu with rfl | rfl <;> rfl) | (intro u hu; simp at hu; subst hu; rfl) | simp)) (by (repeat (first | exact Pick.head | apply Pick.tail | apply Pick.app))) (by (first | rfl | assumption | (simp; done) | omega)) (⟨[_, _], (by (repeat (first | exact Split.nil | exact Split.all | refine Split.cons Pick.head ?_))), ?_⟩))
                                        refine JM.loud rfl rfl (fun fr => l_storeAll hT rfl rfl rfl (by (first | rfl | assumption | (simp; done) | omega)) (by (first | assumption | exact ones_of rfl | exact encW_one _ | exact encB_one _ | (intro u hu; simp at hu; rcases hu with rfl | rfl <;> rfl) | (intro u hu; simp at hu; subst hu; rfl) | simp)) (by (repeat (first | exact Pick.head | apply Pick.tail | apply Pick.app))) (by (first | rfl | assumption | (simp; done) | omega)) (⟨[_, _], (by (repeat (first | exact Split.nil | exact Split.all | refine Split.cons Pick.head ?_))), ?_⟩))
                                        refine JM.nil ?_
                                        refine JE.then_normal ?_
                                        refine J.ret ?_
                                        refine JE.block_ret ?_
                                        refine JE.then_ret ?_
                                        refine JE.block_ret ?_
                                        refine JE.then_ret ?_
                                        refine JE.ret2 (.inl rfl) rfl rfl (by (first | exact RV.tmp rfl | exact RV.cell1 hT rfl rfl rfl (by (exact Rd1.row (by (repeat (first | exact Pick.head | apply Pick.tail | apply Pick.app))) (by rfl))) | exact RV.cellN hT rfl rfl rfl (by (first | exact RdN.rowAll (by (repeat (first | exact Pick.head | apply Pick.tail | apply Pick.app))) | exact RdN.own (by (repeat (first | exact Pick.head | apply Pick.tail | apply Pick.app))))) (by (first | rfl | assumption | (simp; done) | omega)))) (by (first | exact RV.tmp rfl | exact RV.cell1 hT rfl rfl rfl (by (exact Rd1.row (by (repeat (first | exact Pick.head | apply Pick.tail | apply Pick.app))) (by rfl))) | exact RV.cellN hT rfl rfl rfl (by (first | exact RdN.rowAll (by (repeat (first | exact Pick.head | apply Pick.tail | apply Pick.app))) | exact RdN.own (by (repeat (first | exact Pick.head | apply Pick.tail | apply Pick.app))))) (by (first | rfl | assumption | (simp; done) | omega)))) ?_
                                        first
                                        | (have hcf : cmdF xs = (cm0, 3, 640) := by unfold cmdF; rw [if_pos (by omega)]
                                           rw [hcf]
                                           exact ⟨rfl, fun w h => h.sup (by (repeat (first | exact Sup.refl | apply Sup.cons (by (repeat (first | exact Pick.head | apply Pick.tail | apply Pick.app))) | apply Sup.app | apply Sup.skip | apply Sup.skips)))⟩)
                                        | (have zz := hn3
                                           have q : ¬ wIdx wsL P < 1 := fun q => by rw [if_pos q] at hK; omega
                                           rw [if_neg q] at hK
                                           rw [← hP] at hn3 hb1 hK q
                                           first
                                           | (have h9 : a1 = xs.length := by omega
                                              rw [cmd_error (e := 340) (p := (a1 : Int)) (by omega) q (by rw [hK]; exact send_err hn3 hb1 (txt_end h9))]
                                              exact ⟨rfl, fun w h => h.sup (by (repeat (first | exact Sup.refl | apply Sup.cons (by (repeat (first | exact Pick.head | apply Pick.tail | apply Pick.app))) | apply Sup.app | apply Sup.skip | apply Sup.skips)))⟩)
                                           | (have h9 : t = [] := of_decide_eq_true hbt.symm
                                              rw [cmd_error (e := 340) (p := ((a1 + 1 : Nat) : Int)) (by omega) q (by rw [hK]; exact send_err hn3 hb1 (txt_nil (by omega) ht h9))]
                                              exact ⟨rfl, fun w h => h.sup (by (repeat (first | exact Sup.refl | apply Sup.cons (by (repeat (first | exact Pick.head | apply Pick.tail | apply Pick.app))) | apply Sup.app | apply Sup.skip | apply Sup.skips)))⟩)
                                           | (have h9 : 48 < t.length := by omega
                                              rw [cmd_error (e := 3) (p := ((a1 + 1 : Nat) : Int)) (by omega) q (by rw [hK]; exact send_err hn3 hb1 (txt_long (by omega) ht (of_decide_eq_false hbt.symm) h9))]
                                              exact ⟨rfl, fun w h => h.sup (by (repeat (first | exact Sup.refl | apply Sup.cons (by (repeat (first | exact Pick.head | apply Pick.tail | apply Pick.app))) | apply Sup.app | apply Sup.skip | apply Sup.skips)))⟩)
                                           | (rw [cmd_error (e := 340) (p := (a1 : Int) + 1 + z) (by omega) q (by rw [hK, ← hz]; exact send_err hn3 hb1 (txt_odd (by omega) ht (of_decide_eq_false hbt.symm) (by omega) (by rw [hz]; assumption)))]
                                              exact ⟨rfl, fun w h => h.sup (by (repeat (first | exact Sup.refl | apply Sup.cons (by (repeat (first | exact Pick.head | apply Pick.tail | apply Pick.app))) | apply Sup.app | apply Sup.skip | apply Sup.skips)))⟩))
                                        | (have zz : (if wIdx wsL P < 1 then 0 else wIdx wsL P) = 0 := hK
                                           have hcf : cmdF xs = (cm0, 340, 0) := by
                                             unfold cmdF
                                             rw [if_neg (by omega), if_pos (by rw [hP]; refine Decidable.of_not_not fun q => ?_; rw [if_neg q] at zz; omega)]
                                           rw [hcf]
                                           exact ⟨rfl, fun w h => h.sup (by (repeat (first | exact Sup.refl | apply Sup.cons (by (repeat (first | exact Pick.head | apply Pick.tail | apply Pick.app))) | apply Sup.app | apply Sup.skip | apply Sup.skips)))⟩)
                                        | (have zz : ¬ e5 = 0 := by assumption
                                           have q : ¬ wIdx wsL P < 1 := fun q => by rw [if_pos q] at hK; omega
                                           rw [if_neg q] at hK
                                           have hE : restF xs P.length K = .error (e5, p5) := by
                                             rcases hF with ⟨q1, _⟩ | ⟨_, q1⟩
                                             · exact absurd q1 zz
                                             · exact q1
                                           rw [cmd_error (e := e5) (p := p5) (by omega) (by rw [hP]; exact q) (by rw [hP, hK]; exact hE)]
                                           unfold cm0
                                           rw [cm_zero]
                                           exact ⟨rfl, fun w h => h.sup (by (repeat (first | exact Sup.refl | apply Sup.cons (by (repeat (first | exact Pick.head | apply Pick.tail | apply Pick.app))) | apply Sup.app | apply Sup.skip | apply Sup.skips)))⟩)
                                        | (have zz : e5 = 0 := by omega
                                           have q : ¬ wIdx wsL P < 1 := fun q => by rw [if_pos q] at hK; omega
                                           rw [if_neg q] at hK
                                           have hE : restF xs P.length K = .ok (a5, c5) := by
                                             rcases hF with ⟨_, _, q1⟩ | ⟨q1, _⟩
                                             · exact q1
                                             · exact absurd zz q1
                                           have hC := cmd_ok (xs := xs) (a := a5) (c := c5) (by omega) (by rw [hP]; exact q) (by rw [hP, hK]; exact hE)
                                           first
                                           | (have zy : a5 < xs.length := by
                                                by_cases q5 : (a5 : Int) = xs.length
                                                · simp [q5] at h
                                                · omega
                                              rw [hC, if_pos zy]
                                              exact ⟨rfl, fun w h => h.sup (by (repeat (first | exact Sup.refl | apply Sup.cons (by (repeat (first | exact Pick.head | apply Pick.tail | apply Pick.app))) | apply Sup.app | apply Sup.skip | apply Sup.skips)))⟩)
                                           | (have zy : ¬ a5 < xs.length := by
                                                by_cases q5 : (a5 : Int) = xs.length
                                                · omega
                                                · simp [q5] at h
                                              rw [hC, if_neg zy]
                                              exact ⟨rfl, fun w h => h.sup (by (repeat (first | exact Sup.refl | apply Sup.cons (by (repeat (first | exact Pick.head | apply Pick.tail | apply Pick.app))) | apply Sup.app | apply Sup.skip | apply Sup.skips)))⟩))
                                    case' hf =>
                                      intro h
                                      try (first | (exfalso; omega) | (cases h; done) | (exfalso; simp at h; done) | subst h)
                                      all_goals
                                        refine J.skip ?_
                            all_goals refine JE.block_normal ?_
                            all_goals refine JE.then_normal ?_
                            all_goals
                              refine J.region ?_
                              refine JL.step (y_move rfl) rfl rfl rfl (JL.step (y_move rfl) rfl rfl rfl ?_)
                              refine JL.step (y_lenS hT rfl rfl rfl) rfl rfl rfl ?_
                              refine JL.step ((by first | exact y_nilCheck rfl | exact y_nilCheckF rfl | exact y_nilCheckY rfl)) rfl rfl rfl ?_
                              refine JL.step (y_fieldAddr hT rfl rfl rfl rfl rfl rfl) rfl rfl rfl ?_
                              refine JL.loud rfl (l_store1 hT rfl rfl rfl rfl rfl (by (repeat (first | exact Pick.head | apply Pick.tail | apply Pick.app))) (by (first | omega | exact Nat.le_of_ble_eq_true rfl | decide | (simp; omega))) ?_)
                              refine JL.nil ?_
                    case' hf =>
                      intro h
                      try (first | (exfalso; omega) | (cases h; done) | (exfalso; simp at h; done) | subst h)
                      all_goals
                        refine J.skip ?_
            all_goals refine JE.block_normal ?_
            all_goals refine JE.then_normal ?_
            all_goals
              first
              | (have zz := ks
                 exact J.closeK hk43 (a3, e5, p5, ⟨2, nm, ks, [], 0⟩) hF ⟨rfl, rfl, rfl, rfl, rfl, trivial⟩ (fun w h => by
                   have h1 := h
                   erw [cm_put rfl ks hkl] at h1
                   exact h1.sup (by (repeat (first | exact Sup.refl | apply Sup.cons (by (repeat (first | exact Pick.head | apply Pick.tail | apply Pick.app))) | apply Sup.app | apply Sup.skip | apply Sup.skips)))))
              | (have zz := hzv
                 exact J.closeK hk43 (a3, e5, p5, ⟨6, nm, zer32, [], z⟩) hF ⟨rfl, rfl, rfl, rfl, rfl, trivial⟩ (fun w h => by
                   have h1 := h
                   erw [cm_set35 rfl z] at h1
                   exact h1.sup (by (repeat (first | exact Sup.refl | apply Sup.cons (by (repeat (first | exact Pick.head | apply Pick.tail | apply Pick.app))) | apply Sup.app | apply Sup.skip | apply Sup.skips)))))
              | (have zz := hc34
                 exact J.closeK hk43 (xs.length, 0, 0, ⟨4, nm, zer32, t, 0⟩) ⟨Nat.le_refl _, rfl, .inl ⟨rfl, rfl, by
                   rw [rest_4 hn3, ← hb1, txt_ok (by omega) ht (of_decide_eq_false hbt.symm) (by omega) (by rw [hz]; omega), hnm]⟩⟩ ⟨rfl, rfl, rfl, rfl, rfl, trivial⟩ (fun w h => h.sup (by (repeat (first | exact Sup.refl | apply Sup.cons (by (repeat (first | exact Pick.head | apply Pick.tail | apply Pick.app))) | apply Sup.app | apply Sup.skip | apply Sup.skips)))))
              | exact J.closeK hk43 (a1, e1, p1, ⟨4, nm, zer32, [], 0⟩) (fin_name hN (by omega) ha1 rfl) ⟨rfl, rfl, rfl, rfl, rfl, trivial⟩ (fun w h => h.sup (by (repeat (first | exact Sup.refl | apply Sup.cons (by (repeat (first | exact Pick.head | apply Pick.tail | apply Pick.app))) | apply Sup.app | apply Sup.skip | apply Sup.skips))))
              | exact J.closeK hk43 (a1, e1, p1, ⟨K, nm, zer32, [], 0⟩) (fin_rest hN (by omega) (by omega) (by omega)) ⟨rfl, rfl, rfl, rfl, rfl, trivial⟩ (fun w h => h.sup (by (repeat (first | exact Sup.refl | apply Sup.cons (by (repeat (first | exact Pick.head | apply Pick.tail | apply Pick.app))) | apply Sup.app | apply Sup.skip | apply Sup.skips))))
          rintro ⟨a5, e5, p5, c5⟩ ⟨ha5, hc5, hF⟩
          try dsimp only
          dsimp only at ha5 hc5 hF
          refine J.seq ?_
          refine J.seq ?_
          refine J.region ?_
          refine JL.step (y_move rfl) rfl rfl rfl ?_
          refine JL.step ((by first | exact y_nilCheck rfl | exact y_nilCheckF rfl | exact y_nilCheckY rfl)) rfl rfl rfl ?_
          refine JL.step (y_fieldAddr hT rfl rfl rfl rfl rfl rfl) rfl rfl rfl (JL.step (y_fieldAddr hT rfl rfl rfl rfl rfl rfl) rfl rfl rfl ?_)
          refine JL.step (y_load1 hT rfl rfl rfl (by (exact Rd1.row (by (repeat (first | exact Pick.head | apply Pick.tail | apply Pick.app))) (by rfl)))) rfl rfl rfl ?_
          refine JL.step (y_neq rfl rfl) rfl rfl rfl ?_
          refine JL.nil ?_
          refine JE.then_normal ?_
          first | apply J.cond_dec rfl | apply J.cond rfl
          case' ht =>
            intro h
            try (first | (exfalso; omega) | (cases h; done) | (exfalso; simp at h; done) | subst h)
            all_goals
              refine J.seq ?_
              refine J.draw _ _ [(0, .q), (1, .q), (2, .q), (3, .q), (4, .q), (5, .l), (6, .l)] mixed (by kernel_rfl) (Split.cons (Pick.tail (Pick.tail Pick.head)) (Split.cons (Pick.tail (Pick.tail Pick.head)) (Split.nil))) ?_
              refine JM.quiet rfl rfl rfl rfl (fun m => y_build (cs := [_, _, _, _, _, _, _, _, _, _, _, _, _, _, _, _, _, _, _, _, _, _, _, _, _, _, _, _, _, _, _, _, _, _, _, _]) hT rfl rfl rfl rfl rfl rfl trivial rfl) ?_
              refine JM.quiet rfl rfl rfl rfl (fun m => y_move rfl) ?_
              refine JM.quiet rfl rfl rfl rfl (fun m => (by first | exact y_nilCheck rfl | exact y_nilCheckF rfl | exact y_nilCheckY rfl)) ?_
              refine JM.quiet rfl rfl rfl rfl (fun m => y_fieldAddr hT rfl rfl rfl rfl rfl rfl) ?_
              refine JM.quiet rfl rfl rfl rfl (fun m => y_loadN hT rfl rfl rfl (RdN.row (n := 2) (Pick.app m (by (repeat (first | exact Pick.head | apply Pick.tail | apply Pick.app)))) rfl) rfl) ?_
              refine JM.loud rfl rfl (fun fr => l_storeAll hT rfl rfl rfl (by (first | rfl | assumption | (simp; done) | omega)) (by (first | assumption | exact ones_of rfl | exact encW_one _ | exact encB_one _ | (intro u hu; simp at hu; rcases hu with rfl | rfl <;> rfl) | (intro u hu; simp at hu; subst hu; rfl) | simp)) (by (repeat (first | exact Pick.head | apply Pick.tail | apply Pick.app))) (by (first | rfl | assumption | (simp; done) | omega)) (⟨[_, _], (by (repeat (first | exact Split.nil | exact Split.all | refine Split.cons Pick.head ?_))), ?_⟩))
              refine JM.loud rfl rfl (fun fr => l_storeAll hT rfl rfl rfl (by (first | rfl | assumption | (simp; done) | omega)) (by (first | assumption | exact ones_of rfl | exact encW_one _ | exact encB_one _ | (intro u hu; simp at hu; rcases hu with rfl | rfl <;> rfl) | (intro u hu; simp at hu; subst hu; rfl) | simp)) (by (repeat (first | exact Pick.head | apply Pick.tail | apply Pick.app))) (by (first | rfl | assumption | (simp; done) | omega)) (⟨[_, _], (by (repeat (first | exact Split.nil | exact Split.all | refine Split.cons Pick.head ?_))), ?_⟩))
              refine JM.nil ?_
              refine JE.then_normal ?_
              refine J.ret ?_
              refine JE.then_ret ?_
              refine JE.ret2 (.inl rfl) rfl rfl (by (first | exact RV.tmp rfl | exact RV.cell1 hT rfl rfl rfl (by (exact Rd1.row (by (repeat (first | exact Pick.head | apply Pick.tail | apply Pick.app))) (by rfl))) | exact RV.cellN hT rfl rfl rfl (by (first | exact RdN.rowAll (by (repeat (first | exact Pick.head | apply Pick.tail | apply Pick.app))) | exact RdN.own (by (repeat (first | exact Pick.head | apply Pick.tail | apply Pick.app))))) (by (first | rfl | assumption | (simp; done) | omega)))) (by (first | exact RV.tmp rfl | exact RV.cell1 hT rfl rfl rfl (by (exact Rd1.row (by (repeat (first | exact Pick.head | apply Pick.tail | apply Pick.app))) (by rfl))) | exact RV.cellN hT rfl rfl rfl (by (first | exact RdN.rowAll (by (repeat (first | exact Pick.head | apply Pick.tail | apply Pick.app))) | exact RdN.own (by (repeat (first | exact Pick.head | apply Pick.tail | apply Pick.app))))) (by (first | rfl | assumption | (simp; done) | omega)))) ?_
              first
              | (have hcf : cmdF xs = (cm0, 3, 640) := by unfold cmdF; rw [if_pos (by omega)]
                 rw [hcf]
                 exact ⟨rfl, fun w h => h.sup (by (repeat (first | exact Sup.refl | apply Sup.cons (by (repeat (first | exact Pick.head | apply Pick.tail | apply Pick.app))) | apply Sup.app | apply Sup.skip | apply Sup.skips)))⟩)
              | (have zz := hn3
                 have q : ¬ wIdx wsL P < 1 := fun q => by rw [if_pos q] at hK; omega
                 rw [if_neg q] at hK
                 rw [← hP] at hn3 hb1 hK q
                 first
                 | (have h9 : a1 = xs.length := by omega
                    rw [cmd_error (e := 340) (p := (a1 : Int)) (by omega) q (by rw [hK]; exact send_err hn3 hb1 (txt_end h9))]
                    exact ⟨rfl, fun w h => h.sup (by (repeat (first | exact Sup.refl | apply Sup.cons (by (repeat (first | exact Pick.head | apply Pick.tail | apply Pick.app))) | apply Sup.app | apply Sup.skip | apply Sup.skips)))⟩)
                 | (have h9 : t = [] := of_decide_eq_true hbt.symm
                    rw [cmd_error (e := 340) (p := ((a1 + 1 : Nat) : Int)) (by omega) q (by rw [hK]; exact send_err hn3 hb1 (txt_nil (by omega) ht h9))]
                    exact ⟨rfl, fun w h => h.sup (by (repeat (first | exact Sup.refl | apply Sup.cons (by (repeat (first | exact Pick.head | apply Pick.tail | apply Pick.app))) | apply Sup.app | apply Sup.skip | apply Sup.skips)))⟩)
                 | (have h9 : 48 < t.length := by omega
                    rw [cmd_error (e := 3) (p := ((a1 + 1 : Nat) : Int)) (by omega) q (by rw [hK]; exact send_err hn3 hb1 (txt_long (by omega) ht (of_decide_eq_false hbt.symm) h9))]
                    exact ⟨rfl, fun w h => h.sup (by (repeat (first | exact Sup.refl | apply Sup.cons (by (repeat (first | exact Pick.head | apply Pick.tail | apply Pick.app))) | apply Sup.app | apply Sup.skip | apply Sup.skips)))⟩)
                 | (rw [cmd_error (e := 340) (p := (a1 : Int) + 1 + z) (by omega) q (by rw [hK, ← hz]; exact send_err hn3 hb1 (txt_odd (by omega) ht (of_decide_eq_false hbt.symm) (by omega) (by rw [hz]; assumption)))]
                    exact ⟨rfl, fun w h => h.sup (by (repeat (first | exact Sup.refl | apply Sup.cons (by (repeat (first | exact Pick.head | apply Pick.tail | apply Pick.app))) | apply Sup.app | apply Sup.skip | apply Sup.skips)))⟩))
              | (have zz : (if wIdx wsL P < 1 then 0 else wIdx wsL P) = 0 := hK
                 have hcf : cmdF xs = (cm0, 340, 0) := by
                   unfold cmdF
                   rw [if_neg (by omega), if_pos (by rw [hP]; refine Decidable.of_not_not fun q => ?_; rw [if_neg q] at zz; omega)]
                 rw [hcf]
                 exact ⟨rfl, fun w h => h.sup (by (repeat (first | exact Sup.refl | apply Sup.cons (by (repeat (first | exact Pick.head | apply Pick.tail | apply Pick.app))) | apply Sup.app | apply Sup.skip | apply Sup.skips)))⟩)
              | (have zz : ¬ e5 = 0 := by assumption
                 have q : ¬ wIdx wsL P < 1 := fun q => by rw [if_pos q] at hK; omega
                 rw [if_neg q] at hK
                 have hE : restF xs P.length K = .error (e5, p5) := by
                   rcases hF with ⟨q1, _⟩ | ⟨_, q1⟩
                   · exact absurd q1 zz
                   · exact q1
                 rw [cmd_error (e := e5) (p := p5) (by omega) (by rw [hP]; exact q) (by rw [hP, hK]; exact hE)]
                 unfold cm0
                 rw [cm_zero]
                 exact ⟨rfl, fun w h => h.sup (by (repeat (first | exact Sup.refl | apply Sup.cons (by (repeat (first | exact Pick.head | apply Pick.tail | apply Pick.app))) | apply Sup.app | apply Sup.skip | apply Sup.skips)))⟩)
              | (have zz : e5 = 0 := by omega
                 have q : ¬ wIdx wsL P < 1 := fun q => by rw [if_pos q] at hK; omega
                 rw [if_neg q] at hK
                 have hE : restF xs P.length K = .ok (a5, c5) := by
                   rcases hF with ⟨_, _, q1⟩ | ⟨q1, _⟩
                   · exact q1
                   · exact absurd zz q1
                 have hC := cmd_ok (xs := xs) (a := a5) (c := c5) (by omega) (by rw [hP]; exact q) (by rw [hP, hK]; exact hE)
                 first
                 | (have zy : a5 < xs.length := by
                      by_cases q5 : (a5 : Int) = xs.length
                      · simp [q5] at h
                      · omega
                    rw [hC, if_pos zy]
                    exact ⟨rfl, fun w h => h.sup (by (repeat (first | exact Sup.refl | apply Sup.cons (by (repeat (first | exact Pick.head | apply Pick.tail | apply Pick.app))) | apply Sup.app | apply Sup.skip | apply Sup.skips)))⟩)
                 | (have zy : ¬ a5 < xs.length := by
                      by_cases q5 : (a5 : Int) = xs.length
                      · omega
                      · simp [q5] at h
                    rw [hC, if_neg zy]
                    exact ⟨rfl, fun w h => h.sup (by (repeat (first | exact Sup.refl | apply Sup.cons (by (repeat (first | exact Pick.head | apply Pick.tail | apply Pick.app))) | apply Sup.app | apply Sup.skip | apply Sup.skips)))⟩))
          case' hf =>
            intro h
            try (first | (exfalso; omega) | (cases h; done) | (exfalso; simp at h; done) | subst h)
            all_goals
              refine J.skip ?_
          all_goals refine JE.then_normal ?_
          all_goals
            refine J.seq ?_
            refine J.seq ?_
            refine J.region ?_
            refine JL.step (y_move rfl) rfl rfl rfl ?_
            refine JL.loud rfl (l_callF e39 rfl rfl (send_spec E b4 xs a5 e5 p5 _ _ Pick.head) ?_)
            rintro _ _ ⟨rfl, rfl⟩
            refine JL.step (y_not rfl) rfl rfl rfl ?_
            refine JL.nil ?_
            refine JE.then_normal ?_
            first | apply J.cond_dec rfl | apply J.cond rfl
            case' ht =>
              intro h
              try (first | (exfalso; omega) | (cases h; done) | (exfalso; simp at h; done) | subst h)
              all_goals
                refine J.seq ?_
                refine J.region ?_
                refine JL.step (y_move rfl) rfl rfl rfl ?_
                refine JL.step ((by first | exact y_nilCheck rfl | exact y_nilCheckF rfl | exact y_nilCheckY rfl)) rfl rfl rfl ?_
                refine JL.step (y_fieldAddr hT rfl rfl rfl rfl rfl rfl) rfl rfl rfl ?_
                refine JL.step (y_load1 hT rfl rfl rfl (by (exact Rd1.row (by (repeat (first | exact Pick.head | apply Pick.tail | apply Pick.app))) (by rfl)))) rfl rfl rfl ?_
                refine JL.loud rfl (l_callF e38 rfl rfl (swrong_spec E 340 a5 _) ?_)
                rintro _ _ ⟨rfl, rfl⟩
                refine JL.step (y_extract rfl rfl) rfl rfl rfl (JL.step (y_extract rfl rfl) rfl rfl rfl ?_)
                have hone0 := cmE_one cm0
                refine JL.loud rfl (l_storeAll hT rfl rfl rfl hcl0 hone0 (by (repeat (first | exact Pick.head | apply Pick.tail | apply Pick.app))) (by (first | rfl | assumption | (simp; done) | omega)) ?_)
                refine JL.loud rfl (l_storeAll hT rfl rfl rfl (by (first | rfl | assumption | (simp; done) | omega)) (by (first | assumption | exact ones_of rfl | exact encW_one _ | exact encB_one _ | (intro u hu; simp at hu; rcases hu with rfl | rfl <;> rfl) | (intro u hu; simp at hu; subst hu; rfl) | simp)) (by (repeat (first | exact Pick.head | apply Pick.tail | apply Pick.app))) (by (first | rfl | assumption | (simp; done) | omega)) ?_)
                refine JL.nil ?_
                refine JE.then_normal ?_
                refine J.ret ?_
                refine JE.then_ret ?_
                refine JE.ret2 (.inl rfl) rfl rfl (by (first | exact RV.tmp rfl | exact RV.cell1 hT rfl rfl rfl (by (exact Rd1.row (by (repeat (first | exact Pick.head | apply Pick.tail | apply Pick.app))) (by rfl))) | exact RV.cellN hT rfl rfl rfl (by (first | exact RdN.rowAll (by (repeat (first | exact Pick.head | apply Pick.tail | apply Pick.app))) | exact RdN.own (by (repeat (first | exact Pick.head | apply Pick.tail | apply Pick.app))))) (by (first | rfl | assumption | (simp; done) | omega)))) (by (first | exact RV.tmp rfl | exact RV.cell1 hT rfl rfl rfl (by (exact Rd1.row (by (repeat (first | exact Pick.head | apply Pick.tail | apply Pick.app))) (by rfl))) | exact RV.cellN hT rfl rfl rfl (by (first | exact RdN.rowAll (by (repeat (first | exact Pick.head | apply Pick.tail | apply Pick.app))) | exact RdN.own (by (repeat (first | exact Pick.head | apply Pick.tail | apply Pick.app))))) (by (first | rfl | assumption | (simp; done) | omega)))) ?_
                first
                | (have hcf : cmdF xs = (cm0, 3, 640) := by unfold cmdF; rw [if_pos (by omega)]
                   rw [hcf]
                   exact ⟨rfl, fun w h => h.sup (by (repeat (first | exact Sup.refl | apply Sup.cons (by (repeat (first | exact Pick.head | apply Pick.tail | apply Pick.app))) | apply Sup.app | apply Sup.skip | apply Sup.skips)))⟩)
                | (have zz := hn3
                   have q : ¬ wIdx wsL P < 1 := fun q => by rw [if_pos q] at hK; omega
                   rw [if_neg q] at hK
                   rw [← hP] at hn3 hb1 hK q
                   first
                   | (have h9 : a1 = xs.length := by omega
                      rw [cmd_error (e := 340) (p := (a1 : Int)) (by omega) q (by rw [hK]; exact send_err hn3 hb1 (txt_end h9))]
                      exact ⟨rfl, fun w h => h.sup (by (repeat (first | exact Sup.refl | apply Sup.cons (by (repeat (first | exact Pick.head | apply Pick.tail | apply Pick.app))) | apply Sup.app | apply Sup.skip | apply Sup.skips)))⟩)
                   | (have h9 : t = [] := of_decide_eq_true hbt.symm
                      rw [cmd_error (e := 340) (p := ((a1 + 1 : Nat) : Int)) (by omega) q (by rw [hK]; exact send_err hn3 hb1 (txt_nil (by omega) ht h9))]
                      exact ⟨rfl, fun w h => h.sup (by (repeat (first | exact Sup.refl | apply Sup.cons (by (repeat (first | exact Pick.head | apply Pick.tail | apply Pick.app))) | apply Sup.app | apply Sup.skip | apply Sup.skips)))⟩)
                   | (have h9 : 48 < t.length := by omega
                      rw [cmd_error (e := 3) (p := ((a1 + 1 : Nat) : Int)) (by omega) q (by rw [hK]; exact send_err hn3 hb1 (txt_long (by omega) ht (of_decide_eq_false hbt.symm) h9))]
                      exact ⟨rfl, fun w h => h.sup (by (repeat (first | exact Sup.refl | apply Sup.cons (by (repeat (first | exact Pick.head | apply Pick.tail | apply Pick.app))) | apply Sup.app | apply Sup.skip | apply Sup.skips)))⟩)
                   | (rw [cmd_error (e := 340) (p := (a1 : Int) + 1 + z) (by omega) q (by rw [hK, ← hz]; exact send_err hn3 hb1 (txt_odd (by omega) ht (of_decide_eq_false hbt.symm) (by omega) (by rw [hz]; assumption)))]
                      exact ⟨rfl, fun w h => h.sup (by (repeat (first | exact Sup.refl | apply Sup.cons (by (repeat (first | exact Pick.head | apply Pick.tail | apply Pick.app))) | apply Sup.app | apply Sup.skip | apply Sup.skips)))⟩))
                | (have zz : (if wIdx wsL P < 1 then 0 else wIdx wsL P) = 0 := hK
                   have hcf : cmdF xs = (cm0, 340, 0) := by
                     unfold cmdF
                     rw [if_neg (by omega), if_pos (by rw [hP]; refine Decidable.of_not_not fun q => ?_; rw [if_neg q] at zz; omega)]
                   rw [hcf]
                   exact ⟨rfl, fun w h => h.sup (by (repeat (first | exact Sup.refl | apply Sup.cons (by (repeat (first | exact Pick.head | apply Pick.tail | apply Pick.app))) | apply Sup.app | apply Sup.skip | apply Sup.skips)))⟩)
                | (have zz : ¬ e5 = 0 := by assumption
                   have q : ¬ wIdx wsL P < 1 := fun q => by rw [if_pos q] at hK; omega
                   rw [if_neg q] at hK
                   have hE : restF xs P.length K = .error (e5, p5) := by
                     rcases hF with ⟨q1, _⟩ | ⟨_, q1⟩
                     · exact absurd q1 zz
                     · exact q1
                   rw [cmd_error (e := e5) (p := p5) (by omega) (by rw [hP]; exact q) (by rw [hP, hK]; exact hE)]
                   unfold cm0
                   rw [cm_zero]
                   exact ⟨rfl, fun w h => h.sup (by (repeat (first | exact Sup.refl | apply Sup.cons (by (repeat (first | exact Pick.head | apply Pick.tail | apply Pick.app))) | apply Sup.app | apply Sup.skip | apply Sup.skips)))⟩)
                | (have zz : e5 = 0 := by omega
                   have q : ¬ wIdx wsL P < 1 := fun q => by rw [if_pos q] at hK; omega
                   rw [if_neg q] at hK
                   have hE : restF xs P.length K = .ok (a5, c5) := by
                     rcases hF with ⟨_, _, q1⟩ | ⟨q1, _⟩
                     · exact q1
                     · exact absurd zz q1
                   have hC := cmd_ok (xs := xs) (a := a5) (c := c5) (by omega) (by rw [hP]; exact q) (by rw [hP, hK]; exact hE)
                   first
                   | (have zy : a5 < xs.length := by
                        by_cases q5 : (a5 : Int) = xs.length
                        · simp [q5] at h
                        · omega
                      rw [hC, if_pos zy]
                      exact ⟨rfl, fun w h => h.sup (by (repeat (first | exact Sup.refl | apply Sup.cons (by (repeat (first | exact Pick.head | apply Pick.tail | apply Pick.app))) | apply Sup.app | apply Sup.skip | apply Sup.skips)))⟩)
                   | (have zy : ¬ a5 < xs.length := by
                        by_cases q5 : (a5 : Int) = xs.length
                        · omega
                        · simp [q5] at h
                      rw [hC, if_neg zy]
                      exact ⟨rfl, fun w h => h.sup (by (repeat (first | exact Sup.refl | apply Sup.cons (by (repeat (first | exact Pick.head | apply Pick.tail | apply Pick.app))) | apply Sup.app | apply Sup.skip | apply Sup.skips)))⟩))
            case' hf =>
              intro h
              try (first | (exfalso; omega) | (cases h; done) | (exfalso; simp at h; done) | subst h)
              all_goals
                refine J.skip ?_
            all_goals refine JE.then_normal ?_
            all_goals
              refine J.seq ?_
              refine J.region ?_
              have hcl5 : (cmE c5).length = i27.size := cmE_length hc5
              have hone5 := cmE_one c5
              refine JL.step (y_loadN hT rfl rfl rfl (by (first | exact RdN.rowAll (by (repeat (first | exact Pick.head | apply Pick.tail | apply Pick.app))) | exact RdN.own (by (repeat (first | exact Pick.head | apply Pick.tail | apply Pick.app))))) (by (first | rfl | assumption | (simp; done) | omega))) rfl rfl rfl ?_
              refine JL.step (y_build (cs := [_, _]) hT rfl rfl rfl rfl rfl rfl trivial rfl) rfl rfl rfl ?_
              refine JL.loud rfl (l_storeAll hT rfl rfl rfl hcl5 hone5 (by (repeat (first | exact Pick.head | apply Pick.tail | apply Pick.app))) (by (first | rfl | assumption | (simp; done) | omega)) ?_)
              refine JL.loud rfl (l_storeAll hT rfl rfl rfl (by (first | rfl | assumption | (simp; done) | omega)) (by (first | assumption | exact ones_of rfl | exact encW_one _ | exact encB_one _ | (intro u hu; simp at hu; rcases hu with rfl | rfl <;> rfl) | (intro u hu; simp at hu; subst hu; rfl) | simp)) (by (repeat (first | exact Pick.head | apply Pick.tail | apply Pick.app))) (by (first | rfl | assumption | (simp; done) | omega)) ?_)
              refine JL.nil ?_
              refine JE.then_normal ?_
              refine J.ret ?_
              refine JE.ret2 (.inl rfl) rfl rfl (by (first | exact RV.tmp rfl | exact RV.cell1 hT rfl rfl rfl (by (exact Rd1.row (by (repeat (first | exact Pick.head | apply Pick.tail | apply Pick.app))) (by rfl))) | exact RV.cellN hT rfl rfl rfl (by (first | exact RdN.rowAll (by (repeat (first | exact Pick.head | apply Pick.tail | apply Pick.app))) | exact RdN.own (by (repeat (first | exact Pick.head | apply Pick.tail | apply Pick.app))))) (by (first | rfl | assumption | (simp; done) | omega)))) (by (first | exact RV.tmp rfl | exact RV.cell1 hT rfl rfl rfl (by (exact Rd1.row (by (repeat (first | exact Pick.head | apply Pick.tail | apply Pick.app))) (by rfl))) | exact RV.cellN hT rfl rfl rfl (by (first | exact RdN.rowAll (by (repeat (first | exact Pick.head | apply Pick.tail | apply Pick.app))) | exact RdN.own (by (repeat (first | exact Pick.head | apply Pick.tail | apply Pick.app))))) (by (first | rfl | assumption | (simp; done) | omega)))) ?_
              first
              | (have hcf : cmdF xs = (cm0, 3, 640) := by unfold cmdF; rw [if_pos (by omega)]
                 rw [hcf]
                 exact ⟨rfl, fun w h => h.sup (by (repeat (first | exact Sup.refl | apply Sup.cons (by (repeat (first | exact Pick.head | apply Pick.tail | apply Pick.app))) | apply Sup.app | apply Sup.skip | apply Sup.skips)))⟩)
              | (have zz := hn3
                 have q : ¬ wIdx wsL P < 1 := fun q => by rw [if_pos q] at hK; omega
                 rw [if_neg q] at hK
                 rw [← hP] at hn3 hb1 hK q
                 first
                 | (have h9 : a1 = xs.length := by omega
                    rw [cmd_error (e := 340) (p := (a1 : Int)) (by omega) q (by rw [hK]; exact send_err hn3 hb1 (txt_end h9))]
                    exact ⟨rfl, fun w h => h.sup (by (repeat (first | exact Sup.refl | apply Sup.cons (by (repeat (first | exact Pick.head | apply Pick.tail | apply Pick.app))) | apply Sup.app | apply Sup.skip | apply Sup.skips)))⟩)
                 | (have h9 : t = [] := of_decide_eq_true hbt.symm
                    rw [cmd_error (e := 340) (p := ((a1 + 1 : Nat) : Int)) (by omega) q (by rw [hK]; exact send_err hn3 hb1 (txt_nil (by omega) ht h9))]
                    exact ⟨rfl, fun w h => h.sup (by (repeat (first | exact Sup.refl | apply Sup.cons (by (repeat (first | exact Pick.head | apply Pick.tail | apply Pick.app))) | apply Sup.app | apply Sup.skip | apply Sup.skips)))⟩)
                 | (have h9 : 48 < t.length := by omega
                    rw [cmd_error (e := 3) (p := ((a1 + 1 : Nat) : Int)) (by omega) q (by rw [hK]; exact send_err hn3 hb1 (txt_long (by omega) ht (of_decide_eq_false hbt.symm) h9))]
                    exact ⟨rfl, fun w h => h.sup (by (repeat (first | exact Sup.refl | apply Sup.cons (by (repeat (first | exact Pick.head | apply Pick.tail | apply Pick.app))) | apply Sup.app | apply Sup.skip | apply Sup.skips)))⟩)
                 | (rw [cmd_error (e := 340) (p := (a1 : Int) + 1 + z) (by omega) q (by rw [hK, ← hz]; exact send_err hn3 hb1 (txt_odd (by omega) ht (of_decide_eq_false hbt.symm) (by omega) (by rw [hz]; assumption)))]
                    exact ⟨rfl, fun w h => h.sup (by (repeat (first | exact Sup.refl | apply Sup.cons (by (repeat (first | exact Pick.head | apply Pick.tail | apply Pick.app))) | apply Sup.app | apply Sup.skip | apply Sup.skips)))⟩))
              | (have zz : (if wIdx wsL P < 1 then 0 else wIdx wsL P) = 0 := hK
                 have hcf : cmdF xs = (cm0, 340, 0) := by
                   unfold cmdF
                   rw [if_neg (by omega), if_pos (by rw [hP]; refine Decidable.of_not_not fun q => ?_; rw [if_neg q] at zz; omega)]
                 rw [hcf]
                 exact ⟨rfl, fun w h => h.sup (by (repeat (first | exact Sup.refl | apply Sup.cons (by (repeat (first | exact Pick.head | apply Pick.tail | apply Pick.app))) | apply Sup.app | apply Sup.skip | apply Sup.skips)))⟩)
              | (have zz : ¬ e5 = 0 := by assumption
                 have q : ¬ wIdx wsL P < 1 := fun q => by rw [if_pos q] at hK; omega
                 rw [if_neg q] at hK
                 have hE : restF xs P.length K = .error (e5, p5) := by
                   rcases hF with ⟨q1, _⟩ | ⟨_, q1⟩
                   · exact absurd q1 zz
                   · exact q1
                 rw [cmd_error (e := e5) (p := p5) (by omega) (by rw [hP]; exact q) (by rw [hP, hK]; exact hE)]
                 unfold cm0
                 rw [cm_zero]
                 exact ⟨rfl, fun w h => h.sup (by (repeat (first | exact Sup.refl | apply Sup.cons (by (repeat (first | exact Pick.head | apply Pick.tail | apply Pick.app))) | apply Sup.app | apply Sup.skip | apply Sup.skips)))⟩)
              | (have zz : e5 = 0 := by omega
                 have q : ¬ wIdx wsL P < 1 := fun q => by rw [if_pos q] at hK; omega
                 rw [if_neg q] at hK
                 have hE : restF xs P.length K = .ok (a5, c5) := by
                   rcases hF with ⟨_, _, q1⟩ | ⟨q1, _⟩
                   · exact q1
                   · exact absurd zz q1
                 have hC := cmd_ok (xs := xs) (a := a5) (c := c5) (by omega) (by rw [hP]; exact q) (by rw [hP, hK]; exact hE)
                 first
                 | (have zy : a5 < xs.length := by
                      by_cases q5 : (a5 : Int) = xs.length
                      · simp [q5] at h
                      · omega
                    rw [hC, if_pos zy]
                    exact ⟨rfl, fun w h => h.sup (by (repeat (first | exact Sup.refl | apply Sup.cons (by (repeat (first | exact Pick.head | apply Pick.tail | apply Pick.app))) | apply Sup.app | apply Sup.skip | apply Sup.skips)))⟩)
                 | (have zy : ¬ a5 < xs.length := by
                      by_cases q5 : (a5 : Int) = xs.length
                      · omega
                      · simp [q5] at h
                    rw [hC, if_neg zy]
                    exact ⟨rfl, fun w h => h.sup (by (repeat (first | exact Sup.refl | apply Sup.cons (by (repeat (first | exact Pick.head | apply Pick.tail | apply Pick.app))) | apply Sup.app | apply Sup.skip | apply Sup.skips)))⟩))
    all_goals refine JE.then_normal ?_
    all_goals
      refine J.seq ?_
      refine J.block ?_
      refine J.seq ?_
      have hlt : k < 8 := by omega
      obtain ⟨x, hx⟩ : ∃ x, wsL[k]? = some x := ⟨wsL[k]'(by exact hlt), List.getElem?_eq_getElem _⟩
      have hxB := wsL_bys x (List.mem_of_getElem? hx)
      have hst := kdF_step (w := P) hx
      obtain ⟨bw, hbw⟩ : ∃ b, b = decide (x = P) := ⟨_, rfl⟩
      refine J.region ?_
      refine JL.step (y_move rfl) rfl rfl rfl ?_
      refine JL.step (y_indexAddr_slice hT rfl rfl rfl rfl rfl (by (first | omega | exact Nat.le_of_ble_eq_true rfl | decide | (simp; omega))) (by (first | omega | exact Nat.le_of_ble_eq_true rfl | decide | (simp; omega)))) rfl rfl rfl ?_
      refine JL.step (y_load1 hT rfl rfl rfl (Rd1.elem (i := k) (v := .string (strOf x)) (RdN.rowAll (by (repeat (first | exact Pick.head | apply Pick.tail | apply Pick.app)))) (strs_at hx))) rfl rfl rfl ?_
      refine JL.step (y_assign rfl) rfl rfl rfl (JL.step (y_assign rfl) rfl rfl rfl ?_)
      refine JL.nil ?_
      refine JE.then_normal ?_
      refine J.seq ?_
      refine J.region ?_
      refine JL.step (y_move rfl) rfl rfl rfl (JL.step (y_gtr rfl rfl) rfl rfl rfl (JL.step (y_move rfl) rfl rfl rfl ?_))
      all_goals (first | (refine JL.gsplit_dec rfl rfl rfl (fun h => ?_) (fun h => ?_) <;> try (first | (exfalso; omega) | exact absurd rfl h)) | (refine JL.gsplit rfl rfl rfl (fun h => ?_) (fun h => ?_) <;> try (first | cases h | (exfalso; simp at h; done))) | skip)
      all_goals (first | refine JL.gskip rfl rfl rfl rfl rfl rfl ?_ | refine JL.gskipU rfl rfl rfl rfl rfl ?_ | refine JL.gstep rfl rfl rfl (y_move rfl) rfl rfl ?_)
      all_goals (first | refine JL.gskip rfl rfl rfl rfl rfl rfl ?_ | refine JL.gskipU rfl rfl rfl rfl rfl ?_ | refine JL.gstep rfl rfl rfl (y_move rfl) rfl rfl ?_)
      all_goals (first | refine JL.gskip rfl rfl rfl rfl rfl rfl ?_ | refine JL.gskipU rfl rfl rfl rfl rfl ?_ | refine JL.gstep rfl rfl rfl (y_move rfl) rfl rfl ?_)
      all_goals (first | refine JL.gskip rfl rfl rfl rfl rfl rfl ?_ | refine JL.gskipU rfl rfl rfl rfl rfl ?_ | refine JL.gstep rfl rfl rfl ((by first | exact y_nilCheck rfl | exact y_nilCheckF rfl | exact y_nilCheckY rfl)) rfl rfl ?_)
      all_goals (first | refine JL.gskip rfl rfl rfl rfl rfl rfl ?_ | refine JL.gskipU rfl rfl rfl rfl rfl ?_ | refine JL.gstep rfl rfl rfl (y_fieldAddr hT rfl rfl rfl rfl rfl rfl) rfl rfl ?_)
      all_goals (first | refine JL.gskip rfl rfl rfl rfl rfl rfl ?_ | refine JL.gskipU rfl rfl rfl rfl rfl ?_ | refine JL.gstep rfl rfl rfl (y_load1 hT rfl rfl rfl (by (exact Rd1.row (by (repeat (first | exact Pick.head | apply Pick.tail | apply Pick.app))) (by rfl)))) rfl rfl ?_)
      all_goals (first | refine JL.gskip rfl rfl rfl rfl rfl rfl ?_ | refine JL.gskipU rfl rfl rfl rfl rfl ?_ | refine JL.gstep rfl rfl rfl (y_cutS (lo := 0) (hi := P.length) hT hB rfl rfl rfl (.inl ⟨rfl, rfl⟩) (.inr ⟨_, _, _, rfl, rfl, rfl⟩) (Nat.zero_le _) hPl) rfl rfl ?_)
      all_goals (first | refine JL.gskip rfl rfl rfl rfl rfl rfl ?_ | refine JL.gskipU rfl rfl rfl rfl rfl ?_ | refine JL.gstep rfl rfl rfl (y_eqS (b := bw) hxB hPB rfl (by rw [List.drop_zero, hPt]; rfl) hbw) rfl rfl ?_)
      all_goals (refine JL.step (y_pick rfl rfl rfl) rfl rfl rfl ?_)
      all_goals refine JL.nil ?_
      all_goals refine JE.then_normal ?_
      all_goals
        first | apply J.cond_dec rfl | apply J.cond rfl
        case' ht =>
          intro h
          try (first | (exfalso; omega) | (cases h; done) | (exfalso; simp at h; done) | subst h)
          all_goals
            refine J.region ?_
            refine JL.step (y_move rfl) rfl rfl rfl (JL.step (y_fieldAddr hT rfl rfl rfl rfl rfl rfl) rfl rfl rfl ?_)
            refine JL.loud rfl (l_store1 hT rfl rfl rfl rfl rfl (by (repeat (first | exact Pick.head | apply Pick.tail | apply Pick.app))) (by rw [cmE_length rfl]; decide) ?_)
            refine JL.nil ?_
        case' hf =>
          intro h
          try (first | (exfalso; omega) | (cases h; done) | (exfalso; simp at h; done) | subst h)
          all_goals
            refine J.skip ?_
      all_goals refine JE.block_normal ?_
      all_goals refine JE.then_normal ?_
      all_goals
        refine J.region ?_
        refine JL.step (y_add rfl rfl (by (first | exact wrap_i64 (by omega) (by omega) | rfl))) rfl rfl rfl ?_
        refine JL.step (y_move rfl) rfl rfl rfl ?_
        refine JL.nil ?_
    all_goals
      first
      | (have hc : 0 < k ∧ x = P := ⟨by omega, of_decide_eq_true hbw.symm⟩
         rw [if_pos hc] at hst
         exact JE.round (s := k) (k + 1) (by omega) ⟨rfl, rfl, rfl, rfl, rfl, rfl, rfl, rfl, trivial⟩ (fun w h => by
           rw [hst]
           have h9 : Sat E (stars (row b5 27 (cmE ⟨(k : Int), [], zer32, [], 0⟩) :: row wb 9 (strs wsL) :: row b4 71 (rdE xs P.length 0 0) :: row b2 30 [.int .i64 0, .int .i64 0] :: row b1 27 (cmE cm0) :: l)) w := h.sup (by (repeat (first | exact Sup.refl | apply Sup.cons (by (repeat (first | exact Pick.head | apply Pick.tail | apply Pick.app))) | apply Sup.app | apply Sup.skip | apply Sup.skips)))
           exact h9.sup (by (repeat (first | exact Sup.refl | apply Sup.cons (by (repeat (first | exact Pick.head | apply Pick.tail | apply Pick.app))) | apply Sup.app | apply Sup.skip | apply Sup.skips)))) (by omega))
      | (have hc : ¬ (0 < k ∧ x = P) := by
           rintro ⟨q1, q2⟩
           first | omega | exact of_decide_eq_false hbw.symm q2
         rw [if_neg hc] at hst
         exact JE.round (s := k) (k + 1) (by omega) ⟨rfl, rfl, rfl, rfl, rfl, rfl, rfl, rfl, trivial⟩ (fun w h => by
           rw [hst]
           exact h) (by omega))
end
end
section
open Go Go.SL
section
/-- The digits that are written behind the rest m of n. -/
def digS (n m : Nat) (s : List Int) : Prop := (s = [] ∧ m = n) ∨ (s ≠ [] ∧ m = 0 ∧ s = dig n) ∨ (s ≠ [] ∧ 0 < m ∧ dig m ++ s = dig n)
theorem digS_step {n m : Nat} {s : List Int} (h : digS n m s) (hg : 0 < m ∨ s = []) : digS n (m / 10) ((48 + (m % 10 : Nat) : Int) :: s) := by
  have hm : (m = 0 ∧ n = 0 ∧ s = []) ∨ (dig m ++ s = dig n) := by
    rcases h with ⟨rfl, rfl⟩ | ⟨h1, h2, _⟩ | ⟨_, _, h3⟩
    · right; rw [List.append_nil]
    · rcases hg with q | q
      · omega
      · exact absurd q h1
    · exact .inr h3
  have hm : dig m ++ s = dig n := by
    rcases hm with ⟨rfl, rfl, rfl⟩ | q
    · rw [List.append_nil]
    · exact q
  rcases dig_step m with ⟨h1, h2⟩ | ⟨h1, h2⟩
  · refine .inr (.inl ⟨by simp, by omega, ?_⟩)
    rw [← hm, h2, show m % 10 = m by omega]
    rfl
  · refine .inr (.inr ⟨by simp, by omega, ?_⟩)
    rw [← hm, h2, List.append_assoc, show ((m % 10 : Nat) : Int) = (m : Int) % 10 by omega]
    rfl
theorem digS_end {n m : Nat} {s : List Int} (h : digS n m s) (h1 : ¬ 0 < m) (h2 : ¬ s = []) : s = dig n := by
  rcases h with ⟨q, _⟩ | ⟨_, _, q⟩ | ⟨_, q, _⟩
  · exact absurd q h2
  · exact q
  · exact absurd q h1
theorem digS_len {n m : Nat} {s : List Int} (h : digS n m s) (hn : n < 10 ^ 19) : s.length ≤ 19 ∧ m ≤ n := by
  have hl := dig_le hn (by decide)
  rcases h with ⟨rfl, rfl⟩ | ⟨_, rfl, rfl⟩ | ⟨_, _, q⟩
  · exact ⟨by simp, Nat.le_refl _⟩
  · exact ⟨hl, by omega⟩
  · rw [← q, List.length_append] at hl
    refine ⟨by omega, ?_⟩
    have h1 := valD_dig n
    rw [← q] at h1
    have h2 : ∀ (xs : List Int) (ys : List Int), valD xs ≤ valD (xs ++ ys) := by
      intro xs ys
      refine snoc_rec (C := fun ys => valD xs ≤ valD (xs ++ ys)) (by rw [List.append_nil]; exact Nat.le_refl _) (fun ys y ih => ?_) ys
      rw [← List.append_assoc, valD_snoc]
      omega
    have h3 := h2 (dig m) s
    rw [valD_dig] at h3
    omega
theorem digS_bys {n m : Nat} {s : List Int} (h : digS n m s) : Bys s := by
  rcases h with ⟨rfl, _⟩ | ⟨_, _, rfl⟩ | ⟨_, _, q⟩
  · exact Bys.nil
  · exact dig_bys n
  · exact fun x hx => dig_bys n x (by rw [← q]; exact List.mem_append_right _ hx)
end
section
attribute [local irreducible] J JL JE JM LS Y Fc RV Code.wp wpList Code.wpIn wpListIn
attribute [local irreducible] Yc strOf valD dig
variable (E : World)
theorem rdigN_spec (n : Nat) (l : List HProp) (hn : n ≤ 9223372036854775807) : Fc prog E 50 [.int .i64 n].toArray l (fun v l' => v = .string (strOf (dig n)) ∧ l' = l) := by
  refine Fc.eqs ?_
  have e0 : strOf [] = ⟨#[]⟩ := by unfold strOf; rfl
  refine Fc.of_body (c := ?codeC) Tryz.func50 ?hb Tryz.ntmps50 ?hl ?_
  case hb => exact rfl
  case hl => exact rfl
  refine J.seq ?_
  refine J.region ?_
  refine JL.step (y_assign rfl) rfl rfl rfl ?_
  refine JL.nil ?_
  refine JE.then_normal ?_
  refine J.seq ?_
  refine J.region ?_
  refine JL.step (y_assign rfl) rfl rfl rfl ?_
  refine JL.nil ?_
  refine JE.then_normal ?_
  refine J.seq ?_
  refine J.block ?_
  refine J.loop (α := Nat × List Int) (fun s => digS n s.1 s.2) (fun s => [(0, .int .i64 (s.1 : Int)), (3, .string (strOf s.2))]) (fun _ => l) (fun s => s.1 + (if s.2 = [] then 1 else 0)) (n, []) (.inl ⟨rfl, rfl⟩) ⟨rfl, by rw [e0]; rfl, trivial⟩ (fun w h => h) ?_
  rintro ⟨m, s⟩ hS
  dsimp only at hS ⊢
  obtain ⟨hsl, hmn⟩ := digS_len hS (by omega)
  refine J.seq ?_
  refine J.seq ?_
  obtain ⟨bs, hbs⟩ : ∃ b, b = decide (s = []) := ⟨_, rfl⟩
  obtain ⟨bm, hbm⟩ : ∃ b, b = decide ((0 : Int) < (m : Int)) := ⟨_, rfl⟩
  refine J.region ?_
  refine JL.step (y_move rfl) rfl rfl rfl ?_
  refine JL.step (y_gtrB (b := bm) rfl rfl hbm.symm) rfl rfl rfl ?_
  refine JL.step (y_move rfl) rfl rfl rfl ?_
  all_goals (first | (refine JL.gsplit_dec rfl rfl rfl (fun h => ?_) (fun h => ?_) <;> try (first | (exfalso; omega) | exact absurd rfl h)) | (refine JL.gsplit rfl rfl rfl (fun h => ?_) (fun h => ?_) <;> try (first | cases h | (exfalso; simp at h; done))) | skip)
  all_goals (first | refine JL.gskip rfl rfl rfl rfl rfl rfl ?_ | refine JL.gskipU rfl rfl rfl rfl rfl ?_ | refine JL.gstep rfl rfl rfl (y_move rfl) rfl rfl ?_)
  all_goals (first | refine JL.gskip rfl rfl rfl rfl rfl rfl ?_ | refine JL.gskipU rfl rfl rfl rfl rfl ?_ | refine JL.gstep rfl rfl rfl (y_eqS (ys := []) (digS_bys hS) Bys.nil rfl (by rw [e0]; rfl) hbs) rfl rfl ?_)
  all_goals (refine JL.step (y_pick rfl rfl rfl) rfl rfl rfl ?_)
  all_goals refine JL.nil ?_
  all_goals refine JE.then_normal ?_
  all_goals
    first | apply J.cond_dec rfl | apply J.cond rfl
    case' ht =>
      intro h
      try (first | (exfalso; omega) | (cases h; done) | (exfalso; simp at h; done) | subst h)
      all_goals
        refine J.skip ?_
    case' hf =>
      intro h
      try (first | (exfalso; omega) | (cases h; done) | (exfalso; simp at h; done) | subst h)
      all_goals
        refine J.exit ?_
        refine JE.then_exit ?_
        refine JE.then_exit ?_
        refine JE.block_exit ?_
        refine JE.then_normal ?_
        refine J.seq ?_
        refine J.region ?_
        refine JL.step (y_move rfl) rfl rfl rfl (JL.step (y_assign rfl) rfl rfl rfl ?_)
        refine JL.nil ?_
        refine JE.then_normal ?_
        refine J.ret ?_
        refine JE.ret1 (.inl rfl) rfl rfl (by (first | exact RV.tmp rfl | exact RV.cell1 hT rfl rfl rfl (by (exact Rd1.row (by (repeat (first | exact Pick.head | apply Pick.tail | apply Pick.app))) (by rfl))) | exact RV.cellN hT rfl rfl rfl (by (first | exact RdN.rowAll (by (repeat (first | exact Pick.head | apply Pick.tail | apply Pick.app))) | exact RdN.own (by (repeat (first | exact Pick.head | apply Pick.tail | apply Pick.app))))) (by (first | rfl | assumption | (simp; done) | omega)))) ?_
        have hm0 : ¬ 0 < m := by
          first | omega | (simp_all; done) | (simp_all; omega)
        have hs0 : ¬ s = [] := by
          first | (simp_all; done) | (intro q; simp_all; done)
        rw [digS_end hS hm0 hs0]
        exact ⟨rfl, fun w h => h⟩
  all_goals refine JE.then_normal ?_
  all_goals
    refine J.block ?_
    refine J.seq ?_
    have hg : 0 < m ∨ s = [] := by
      by_cases q1 : s = []
      · exact .inr q1
      · left
        first | omega | (simp_all; done) | (simp_all; omega)
    have hd10 : (48 + (m % 10 : Nat) : Int) ≤ 57 := by omega
    refine J.region ?_
    refine JL.step (y_move rfl) rfl rfl rfl ?_
    refine JL.step (y_rem (m := ((m % 10 : Nat) : Int)) rfl rfl (by decide) rfl) rfl rfl rfl ?_
    refine JL.step (y_add (m := (48 + (m % 10 : Nat) : Int)) rfl rfl (wrap_i64 (by omega) (by omega))) rfl rfl rfl ?_
    refine JL.step (y_conv (m := (48 + (m % 10 : Nat) : Int)) hT rfl rfl rfl rfl (by rw [IntKind.wrap_i32]; omega)) rfl rfl rfl ?_
    refine JL.step (y_convRune hT rfl rfl rfl rfl (by omega) (by omega)) rfl rfl rfl ?_
    refine JL.step (y_move rfl) rfl rfl rfl ?_
    refine JL.step (y_addS (zs := (48 + (m % 10 : Nat) : Int) :: s) rfl rfl rfl (by rw [List.length_singleton]; omega)) rfl rfl rfl ?_
    refine JL.step (y_assign rfl) rfl rfl rfl ?_
    refine JL.nil ?_
    refine JE.then_normal ?_
    refine J.region ?_
    refine JL.step (y_move rfl) rfl rfl rfl ?_
    refine JL.step (y_quo (m := ((m / 10 : Nat) : Int)) rfl rfl (by decide) (by show IntKind.i64.wrap ((m / 10 : Nat) : Int) = _; exact wrap_i64 (by omega) (by omega))) rfl rfl rfl ?_
    refine JL.step (y_assign rfl) rfl rfl rfl ?_
    refine JL.nil ?_
    refine JE.block_normal ?_
  all_goals
    exact JE.round (s := (m, s)) (m / 10, (48 + (m % 10 : Nat) : Int) :: s) (digS_step hS hg) ⟨rfl, rfl, trivial⟩ (fun w h => h) (by
      dsimp only
      rw [if_neg (by simp)]
      rcases hg with q | q
      · split <;> omega
      · rw [if_pos q]; omega)
theorem rline_spec (c : CmT) (l : List HProp) (hk : CmOk c) (hn : c.name.length ≤ 1000) (ht : c.text.length ≤ 1000) (hc : R64i c.count) :
    Fc prog E 61 [.agg (cmE c).toArray].toArray l (fun v l' => v = .string (strOf (lineD c)) ∧ l' = l) := by
  refine Fc.eqs ?_
  have e0 : strOf [] = ⟨#[]⟩ := by unfold strOf; rfl
  have e32 : strOf [32] = ⟨#[32]⟩ := by unfold strOf; rfl
  have hat34 := cm_at34 hk.key
  have hat35 := cm_at35 hk.key
  have hky := cm_key hk.key
  have hbad : c.kind < 1 ∨ 7 < c.kind → lineD c = [] := fun q => by unfold lineD lineC writeW; rw [if_neg (by omega), if_pos q]; rfl
  have hin : ∀ (b : Nat) (m : List HProp), InL (row b 27 (cmE c) :: m) (some ⟨b, 2, none⟩) 32 32 (ints .u8 c.key) := fun b m => ⟨Nat.le_refl _, by unfold maxLen; omega, .inl ⟨b, 2, rfl, fun m => RdN.row (n := 32) (Pick.app m Pick.head) hky⟩⟩
  have hx64 : (hexT c.key).length = 64 := by rw [hexT_length, hk.key]
  refine Fc.of_body (c := ?codeC) Tryz.func61 ?hb Tryz.ntmps61 ?hl ?_
  case hb => exact rfl
  case hl => exact rfl
  refine J.seq ?_
  refine J.region ?_
  refine JL.loud rfl (l_box rfl (by (first | rfl | simp)) rfl (fun b1 => ?_))
  refine JL.step (y_assign rfl) rfl rfl rfl ?_
  refine JL.nil ?_
  refine JE.then_normal ?_
  refine J.seq ?_
  refine J.seq ?_
  refine J.region ?_
  refine JL.step (y_fieldAddr hT rfl rfl rfl rfl rfl rfl) rfl rfl rfl ?_
  refine JL.step (v := .int .i64 c.kind) (y_load1 hT rfl rfl rfl (Rd1.row (by (repeat (first | exact Pick.head | apply Pick.tail | apply Pick.app))) rfl)) rfl rfl rfl ?_
  refine JL.step (y_lss rfl rfl) rfl rfl rfl (JL.step (y_move rfl) rfl rfl rfl ?_)
  all_goals (first | (refine JL.gsplit_dec rfl rfl rfl (fun h => ?_) (fun h => ?_) <;> try (first | (exfalso; omega) | exact absurd rfl h)) | (refine JL.gsplit rfl rfl rfl (fun h => ?_) (fun h => ?_) <;> try (first | cases h | (exfalso; simp at h; done))) | skip)
  all_goals (first | refine JL.gskip rfl rfl rfl rfl rfl rfl ?_ | refine JL.gskipU rfl rfl rfl rfl rfl ?_ | refine JL.gstep rfl rfl rfl (y_fieldAddr hT rfl rfl rfl rfl rfl rfl) rfl rfl ?_)
  all_goals (first | refine JL.gskip rfl rfl rfl rfl rfl rfl ?_ | refine JL.gskipU rfl rfl rfl rfl rfl ?_ | refine JL.gstep rfl rfl rfl (y_load1 (v := .int .i64 c.kind) hT rfl rfl rfl (Rd1.row (by (repeat (first | exact Pick.head | apply Pick.tail | apply Pick.app))) rfl)) rfl rfl ?_)
  all_goals (first | refine JL.gskip rfl rfl rfl rfl rfl rfl ?_ | refine JL.gskipU rfl rfl rfl rfl rfl ?_ | refine JL.gstep rfl rfl rfl (y_gtr rfl rfl) rfl rfl ?_)
  all_goals (refine JL.step (y_pick rfl rfl rfl) rfl rfl rfl ?_)
  all_goals refine JL.nil ?_
  all_goals refine JE.then_normal ?_
  all_goals
    first | apply J.cond_dec rfl | apply J.cond rfl
    case' ht =>
      intro h
      try (first | (exfalso; omega) | (cases h; done) | (exfalso; simp at h; done) | subst h)
      all_goals
        refine J.seq ?_
        refine J.region ?_
        refine JL.step (y_assign rfl) rfl rfl rfl ?_
        refine JL.nil ?_
        refine JE.then_normal ?_
        refine J.ret ?_
        refine JE.then_ret ?_
        refine JE.ret1 (.inl rfl) rfl rfl (by (first | exact RV.tmp rfl | exact RV.cell1 hT rfl rfl rfl (by (exact Rd1.row (by (repeat (first | exact Pick.head | apply Pick.tail | apply Pick.app))) (by rfl))) | exact RV.cellN hT rfl rfl rfl (by (first | exact RdN.rowAll (by (repeat (first | exact Pick.head | apply Pick.tail | apply Pick.app))) | exact RdN.own (by (repeat (first | exact Pick.head | apply Pick.tail | apply Pick.app))))) (by (first | rfl | assumption | (simp; done) | omega)))) ?_
        first
        | (rw [hbad (by omega), e0]
           exact ⟨rfl, fun w h => h.sup (by (repeat (first | exact Sup.refl | apply Sup.cons (by (repeat (first | exact Pick.head | apply Pick.tail | apply Pick.app))) | apply Sup.app | apply Sup.skip | apply Sup.skips)))⟩)
        | (have hn6 : c.kind = 6 ∧ c.count < 0 := by omega
           have e1 : lineD c = [] := by unfold lineD; rw [if_pos hn6]
           rw [e1, e0]
           exact ⟨rfl, fun w h => h.sup (by (repeat (first | exact Sup.refl | apply Sup.cons (by (repeat (first | exact Pick.head | apply Pick.tail | apply Pick.app))) | apply Sup.app | apply Sup.skip | apply Sup.skips)))⟩)
        | (have e1 : lineD c = lineC c := by unfold lineD; rw [if_neg hno]
           rw [e1]
           exact ⟨rfl, fun w h => h.sup (by (repeat (first | exact Sup.refl | apply Sup.cons (by (repeat (first | exact Pick.head | apply Pick.tail | apply Pick.app))) | apply Sup.app | apply Sup.skip | apply Sup.skips)))⟩)
    case' hf =>
      intro h
      try (first | (exfalso; omega) | (cases h; done) | (exfalso; simp at h; done) | subst h)
      all_goals
        refine J.skip ?_
  all_goals refine JE.then_normal ?_
  all_goals
    refine J.seq ?_
    have hkr : 1 ≤ c.kind ∧ c.kind ≤ 7 := by omega
    have hwa := wsL_at c.kind hkr.1 hkr.2
    obtain ⟨w, hw⟩ : ∃ w, wsL.getD c.kind.toNat [] = w := ⟨_, rfl⟩
    rw [hw] at hwa
    have hW : lineC c = joinW (w :: argW c) := by unfold lineC writeW; rw [if_neg (by omega), hw]
    have hwl : w.length ≤ 1000 := by
      obtain ⟨_, h2⟩ := writeW_each hk hn ht hc
      exact (h2 w (by unfold writeW; rw [if_neg (by omega), hw]; exact List.mem_cons_self ..)).1
    refine J.draw _ _ [(1, .q), (2, .q), (0, .l), (3, .q), (4, .l), (5, .q)] mixed (by kernel_rfl) (Split.nil) ?_
    refine JM.quiet rfl rfl rfl rfl (fun m => y_fieldAddr hT rfl rfl rfl rfl rfl rfl) ?_
    refine JM.quiet rfl rfl rfl rfl (fun m => y_load1 (v := .int .i64 c.kind) hT rfl rfl rfl (Rd1.row (Pick.app m (by (repeat (first | exact Pick.head | apply Pick.tail | apply Pick.app)))) rfl)) ?_
    refine JM.loud rfl rfl (fun fr => l_callF e40 rfl rfl (rwords_spec E _) ?_)
    rintro _ _ ⟨wb, rfl, rfl⟩
    refine ⟨[_], (by (repeat (first | exact Split.nil | exact Split.all | refine Split.cons Pick.head ?_))), ?_⟩
    refine JM.quiet rfl rfl rfl rfl (fun m => y_indexAddr_slice hT rfl rfl rfl rfl rfl (by omega) (by show c.kind < (8 : Int); omega)) ?_
    refine JM.loud rfl rfl (fun fr => LS.ofY rfl rfl (y_load1 hT rfl rfl rfl (Rd1.elem (i := c.kind.toNat) (v := .string (strOf w)) (RdN.rowAll (by (repeat (first | exact Pick.head | apply Pick.tail | apply Pick.app)))) hwa)) ⟨[_], (by (repeat (first | exact Split.nil | exact Split.all | refine Split.cons Pick.head ?_))), ?_⟩)
    refine JM.quiet rfl rfl rfl rfl (fun m => y_assign rfl) ?_
    refine JM.nil ?_
    refine JE.then_normal ?_
    refine J.seqK (α := List Int) (fun zs => zs.length ≤ 2010 ∧ (c.kind = 1 ∨ c.kind = 3 → zs = w) ∧ (¬ (c.kind = 1 ∨ c.kind = 3) → zs = w ++ 32 :: c.name)) (fun zs => [(1, .pointer (some ⟨b1, 0, none⟩)), (3, .string (strOf zs))]) (fun _ => row b1 27 (cmE c) :: l) ?hj6 (fun hk6 => ?hf6)
    case hf6 =>
      refine J.seq ?_
      refine J.region ?_
      refine JL.step (y_fieldAddr hT rfl rfl rfl rfl rfl rfl) rfl rfl rfl ?_
      refine JL.step (v := .int .i64 c.kind) (y_load1 hT rfl rfl rfl (Rd1.row (by (repeat (first | exact Pick.head | apply Pick.tail | apply Pick.app))) rfl)) rfl rfl rfl ?_
      refine JL.step (y_neq rfl rfl) rfl rfl rfl (JL.step (y_move rfl) rfl rfl rfl ?_)
      all_goals (first | (refine JL.gsplit_dec rfl rfl rfl (fun h => ?_) (fun h => ?_) <;> try (first | (exfalso; omega) | exact absurd rfl h)) | (refine JL.gsplit rfl rfl rfl (fun h => ?_) (fun h => ?_) <;> try (first | cases h | (exfalso; simp at h; done))) | skip)
      all_goals (first | refine JL.gskip rfl rfl rfl rfl rfl rfl ?_ | refine JL.gskipU rfl rfl rfl rfl rfl ?_ | refine JL.gstep rfl rfl rfl (y_fieldAddr hT rfl rfl rfl rfl rfl rfl) rfl rfl ?_)
      all_goals (first | refine JL.gskip rfl rfl rfl rfl rfl rfl ?_ | refine JL.gskipU rfl rfl rfl rfl rfl ?_ | refine JL.gstep rfl rfl rfl (y_load1 (v := .int .i64 c.kind) hT rfl rfl rfl (Rd1.row (by (repeat (first | exact Pick.head | apply Pick.tail | apply Pick.app))) rfl)) rfl rfl ?_)
      all_goals (first | refine JL.gskip rfl rfl rfl rfl rfl rfl ?_ | refine JL.gskipU rfl rfl rfl rfl rfl ?_ | refine JL.gstep rfl rfl rfl (y_neq rfl rfl) rfl rfl ?_)
      all_goals (refine JL.step (y_pick rfl rfl rfl) rfl rfl rfl ?_)
      all_goals refine JL.nil ?_
      all_goals refine JE.then_normal ?_
      all_goals
        first | apply J.cond_dec rfl | apply J.cond rfl
        case' ht =>
          intro h
          try (first | (exfalso; omega) | (cases h; done) | (exfalso; simp at h; done) | subst h)
          all_goals
            refine J.region ?_
            refine JL.step (y_move rfl) rfl rfl rfl (JL.step (y_fieldAddr hT rfl rfl rfl rfl rfl rfl) rfl rfl rfl ?_)
            refine JL.step (y_load1 hT rfl rfl rfl (by (exact Rd1.row (by (repeat (first | exact Pick.head | apply Pick.tail | apply Pick.app))) (by rfl)))) rfl rfl rfl ?_
            refine JL.step (y_addS (xs := [32]) (zs := 32 :: c.name) (by rw [e32]; rfl) rfl rfl (by rw [List.length_singleton]; omega)) rfl rfl rfl ?_
            refine JL.step (y_addS (zs := w ++ 32 :: c.name) rfl rfl rfl (by rw [List.length_cons]; omega)) rfl rfl rfl ?_
            refine JL.step (y_assign rfl) rfl rfl rfl ?_
            refine JL.nil ?_
        case' hf =>
          intro h
          try (first | (exfalso; omega) | (cases h; done) | (exfalso; simp at h; done) | subst h)
          all_goals
            refine J.skip ?_
      all_goals refine JE.then_normal ?_
      all_goals
        first
        | (have hk13 : ¬ (c.kind = 1 ∨ c.kind = 3) := by omega
           exact J.closeK hk6 (w ++ 32 :: c.name) ⟨by rw [List.length_append, List.length_cons]; omega, fun q => absurd q hk13, fun _ => rfl⟩ ⟨rfl, rfl, trivial⟩ (fun w9 h => h.sup (by (repeat (first | exact Sup.refl | apply Sup.cons (by (repeat (first | exact Pick.head | apply Pick.tail | apply Pick.app))) | apply Sup.app | apply Sup.skip | apply Sup.skips)))))
        | (have hk13 : c.kind = 1 ∨ c.kind = 3 := by omega
           exact J.closeK hk6 w ⟨by omega, fun _ => rfl, fun q => absurd hk13 q⟩ ⟨rfl, rfl, trivial⟩ (fun w9 h => h.sup (by (repeat (first | exact Sup.refl | apply Sup.cons (by (repeat (first | exact Pick.head | apply Pick.tail | apply Pick.app))) | apply Sup.app | apply Sup.skip | apply Sup.skips)))))
    rintro zs ⟨hzl, hz1, hz2⟩
    try dsimp only
    refine J.seqK (α := Unit) (fun _ => ¬ (c.kind = 6 ∧ c.count < 0)) (fun _ => [(3, .string (strOf (lineC c)))]) (fun _ => l) ?hj15 (fun hk15 => ?hf15)
    case hf15 =>
      refine J.seq ?_
      refine J.region ?_
      refine JL.step (y_fieldAddr hT rfl rfl rfl rfl rfl rfl) rfl rfl rfl ?_
      refine JL.step (v := .int .i64 c.kind) (y_load1 hT rfl rfl rfl (Rd1.row (by (repeat (first | exact Pick.head | apply Pick.tail | apply Pick.app))) rfl)) rfl rfl rfl ?_
      refine JL.nil ?_
      refine JE.then_normal ?_
      refine J.block ?_
      refine J.seq ?_
      refine J.region ?_
      refine JL.step (y_eql rfl rfl) rfl rfl rfl (JL.step (y_assign rfl) rfl rfl rfl ?_)
      refine JL.nil ?_
      refine JE.then_normal ?_
      first | apply J.cond_dec rfl | apply J.cond rfl
      case' ht =>
        intro h
        try (first | (exfalso; omega) | (cases h; done) | (exfalso; simp at h; done) | subst h)
        all_goals
          refine J.region ?_
          refine JL.step (y_move rfl) rfl rfl rfl (JL.step (y_fieldAddr hT rfl rfl rfl rfl rfl rfl) rfl rfl rfl ?_)
          refine JL.step (y_slice_arr hT rfl rfl rfl rfl (.inl ⟨rfl, rfl⟩) (.inl ⟨rfl, rfl⟩) (by (first | omega | exact Nat.le_of_ble_eq_true rfl | decide | (simp; omega))) (by (first | omega | exact Nat.le_of_ble_eq_true rfl | decide | (simp; omega)))) rfl rfl rfl ?_
          refine JL.loud rfl (l_callF e49 rfl rfl (rdigits_spec E (some ⟨b1, 2, none⟩) 32 32 c.key _ hk.key (by omega) hk.kb (hin b1 _)) ?_)
          rintro _ _ ⟨rfl, rfl⟩
          refine JL.step (y_addS (xs := [32]) (zs := 32 :: hexT c.key) (by rw [e32]; rfl) rfl rfl (by rw [List.length_singleton]; omega)) rfl rfl rfl ?_
          refine JL.step (y_addS (zs := zs ++ 32 :: hexT c.key) rfl rfl rfl (by rw [List.length_cons]; omega)) rfl rfl rfl ?_
          refine JL.step (y_assign rfl) rfl rfl rfl ?_
          refine JL.nil ?_
      case' hf =>
        intro h
        try (first | (exfalso; omega) | (cases h; done) | (exfalso; simp at h; done) | subst h)
        all_goals
          refine J.seq ?_
          refine J.region ?_
          refine JL.step (y_eql rfl rfl) rfl rfl rfl (JL.step (y_assign rfl) rfl rfl rfl ?_)
          refine JL.nil ?_
          refine JE.then_normal ?_
          first | apply J.cond_dec rfl | apply J.cond rfl
          case' ht =>
            intro h
            try (first | (exfalso; omega) | (cases h; done) | (exfalso; simp at h; done) | subst h)
            all_goals
              refine J.region ?_
              refine JL.step (y_move rfl) rfl rfl rfl (JL.step (y_fieldAddr hT rfl rfl rfl rfl rfl rfl) rfl rfl rfl ?_)
              refine JL.step (y_load1 hT rfl rfl rfl (Rd1.row (by (repeat (first | exact Pick.head | apply Pick.tail | apply Pick.app))) hat34)) rfl rfl rfl ?_
              refine JL.step (y_addS (xs := [32]) (zs := 32 :: c.text) (by rw [e32]; rfl) rfl rfl (by rw [List.length_singleton]; omega)) rfl rfl rfl ?_
              refine JL.step (y_addS (zs := zs ++ 32 :: c.text) rfl rfl rfl (by rw [List.length_cons]; omega)) rfl rfl rfl ?_
              refine JL.step (y_assign rfl) rfl rfl rfl ?_
              refine JL.nil ?_
          case' hf =>
            intro h
            try (first | (exfalso; omega) | (cases h; done) | (exfalso; simp at h; done) | subst h)
            all_goals
              refine J.seq ?_
              refine J.region ?_
              refine JL.step (y_eql rfl rfl) rfl rfl rfl (JL.step (y_assign rfl) rfl rfl rfl ?_)
              refine JL.nil ?_
              refine JE.then_normal ?_
              first | apply J.cond_dec rfl | apply J.cond rfl
              case' ht =>
                intro h
                try (first | (exfalso; omega) | (cases h; done) | (exfalso; simp at h; done) | subst h)
                all_goals
                  refine J.seq ?_
                  refine J.seq ?_
                  refine J.region ?_
                  refine JL.step (y_fieldAddr hT rfl rfl rfl rfl rfl rfl) rfl rfl rfl ?_
                  refine JL.step (y_load1 hT rfl rfl rfl (Rd1.row (by (repeat (first | exact Pick.head | apply Pick.tail | apply Pick.app))) hat35)) rfl rfl rfl ?_
                  refine JL.step (y_lss rfl rfl) rfl rfl rfl ?_
                  refine JL.nil ?_
                  refine JE.then_normal ?_
                  first | apply J.cond_dec rfl | apply J.cond rfl
                  case' ht =>
                    intro h
                    try (first | (exfalso; omega) | (cases h; done) | (exfalso; simp at h; done) | subst h)
                    all_goals
                      refine J.seq ?_
                      refine J.region ?_
                      refine JL.step (y_assign rfl) rfl rfl rfl ?_
                      refine JL.nil ?_
                      refine JE.then_normal ?_
                      refine J.ret ?_
                      refine JE.then_ret ?_
                      refine JE.block_ret ?_
                      refine JE.then_ret ?_
                      refine JE.ret1 (.inl rfl) rfl rfl (by (first | exact RV.tmp rfl | exact RV.cell1 hT rfl rfl rfl (by (exact Rd1.row (by (repeat (first | exact Pick.head | apply Pick.tail | apply Pick.app))) (by rfl))) | exact RV.cellN hT rfl rfl rfl (by (first | exact RdN.rowAll (by (repeat (first | exact Pick.head | apply Pick.tail | apply Pick.app))) | exact RdN.own (by (repeat (first | exact Pick.head | apply Pick.tail | apply Pick.app))))) (by (first | rfl | assumption | (simp; done) | omega)))) ?_
                      first
                      | (rw [hbad (by omega), e0]
                         exact ⟨rfl, fun w h => h.sup (by (repeat (first | exact Sup.refl | apply Sup.cons (by (repeat (first | exact Pick.head | apply Pick.tail | apply Pick.app))) | apply Sup.app | apply Sup.skip | apply Sup.skips)))⟩)
                      | (have hn6 : c.kind = 6 ∧ c.count < 0 := by omega
                         have e1 : lineD c = [] := by unfold lineD; rw [if_pos hn6]
                         rw [e1, e0]
                         exact ⟨rfl, fun w h => h.sup (by (repeat (first | exact Sup.refl | apply Sup.cons (by (repeat (first | exact Pick.head | apply Pick.tail | apply Pick.app))) | apply Sup.app | apply Sup.skip | apply Sup.skips)))⟩)
                      | (have e1 : lineD c = lineC c := by unfold lineD; rw [if_neg hno]
                         rw [e1]
                         exact ⟨rfl, fun w h => h.sup (by (repeat (first | exact Sup.refl | apply Sup.cons (by (repeat (first | exact Pick.head | apply Pick.tail | apply Pick.app))) | apply Sup.app | apply Sup.skip | apply Sup.skips)))⟩)
                  case' hf =>
                    intro h
                    try (first | (exfalso; omega) | (cases h; done) | (exfalso; simp at h; done) | subst h)
                    all_goals
                      refine J.skip ?_
                  all_goals refine JE.then_normal ?_
                  all_goals
                    have hnt : numT c.count = dig c.count.toNat := by unfold numT; rw [if_neg (by omega)]
                    have hat36 : (cmE c)[35]? = some (.int .i64 ((c.count.toNat : Nat) : Int)) := by rw [hat35, show ((c.count.toNat : Nat) : Int) = c.count by omega]
                    have hdl := dig_le (u := c.count.toNat) (k := 19) (by have := hc.2; omega) (by decide)
                    refine J.region ?_
                    refine JL.step (y_move rfl) rfl rfl rfl (JL.step (y_fieldAddr hT rfl rfl rfl rfl rfl rfl) rfl rfl rfl ?_)
                    refine JL.step (v := .int .i64 ((c.count.toNat : Nat) : Int)) (y_load1 hT rfl rfl rfl (Rd1.row (by (repeat (first | exact Pick.head | apply Pick.tail | apply Pick.app))) hat36)) rfl rfl rfl ?_
                    refine JL.loud rfl (l_callF e50 rfl rfl (rdigN_spec E c.count.toNat _ (by have := hc.2; omega)) ?_)
                    rintro _ _ ⟨rfl, rfl⟩
                    refine JL.step (y_addS (xs := [32]) (zs := 32 :: dig c.count.toNat) (by rw [e32]; rfl) rfl rfl (by rw [List.length_singleton]; omega)) rfl rfl rfl ?_
                    refine JL.step (y_addS (zs := zs ++ 32 :: dig c.count.toNat) rfl rfl rfl (by rw [List.length_cons]; omega)) rfl rfl rfl ?_
                    refine JL.step (y_assign rfl) rfl rfl rfl ?_
                    refine JL.nil ?_
              case' hf =>
                intro h
                try (first | (exfalso; omega) | (cases h; done) | (exfalso; simp at h; done) | subst h)
                all_goals
                  refine J.skip ?_
      all_goals refine JE.block_normal ?_
      all_goals refine JE.then_normal ?_
      all_goals
        first
        | (have h2 : c.kind = 2 := by omega
           have e1 : lineC c = zs ++ 32 :: hexT c.key := by
             rw [hW, hz2 (by omega)]; unfold argW; rw [if_neg (by omega), if_pos h2, joinW_two, joinW_two, joinW_one, List.append_assoc]; rfl
           rw [e1] at hk15
           exact J.closeK hk15 () (by omega) ⟨rfl, trivial⟩ (fun w9 h => h.sup (by (repeat (first | exact Sup.refl | apply Sup.cons (by (repeat (first | exact Pick.head | apply Pick.tail | apply Pick.app))) | apply Sup.app | apply Sup.skip | apply Sup.skips)))))
        | (have h4 : c.kind = 4 := by omega
           have e1 : lineC c = zs ++ 32 :: c.text := by
             rw [hW, hz2 (by omega)]; unfold argW; rw [if_neg (by omega), if_neg (by omega), if_pos h4, joinW_two, joinW_two, joinW_one, List.append_assoc]; rfl
           rw [e1] at hk15
           exact J.closeK hk15 () (by omega) ⟨rfl, trivial⟩ (fun w9 h => h.sup (by (repeat (first | exact Sup.refl | apply Sup.cons (by (repeat (first | exact Pick.head | apply Pick.tail | apply Pick.app))) | apply Sup.app | apply Sup.skip | apply Sup.skips)))))
        | (have h6 : c.kind = 6 := by omega
           have e1 : lineC c = zs ++ 32 :: dig c.count.toNat := by
             rw [hW, hz2 (by omega), ← hnt]; unfold argW; rw [if_neg (by omega), if_neg (by omega), if_neg (by omega), if_pos h6, joinW_two, joinW_two, joinW_one, List.append_assoc]; rfl
           rw [e1] at hk15
           exact J.closeK hk15 () (by omega) ⟨rfl, trivial⟩ (fun w9 h => h.sup (by (repeat (first | exact Sup.refl | apply Sup.cons (by (repeat (first | exact Pick.head | apply Pick.tail | apply Pick.app))) | apply Sup.app | apply Sup.skip | apply Sup.skips)))))
        | (have e1 : lineC c = zs := by
             rw [hW]
             unfold argW
             by_cases q : c.kind = 1 ∨ c.kind = 3
             · rw [if_pos q, joinW_one, hz1 q]
             · rw [if_neg q, if_neg (by omega), if_neg (by omega), if_neg (by omega), joinW_two, joinW_one, hz2 q]
           rw [e1] at hk15
           exact J.closeK hk15 () (by omega) ⟨rfl, trivial⟩ (fun w9 h => h.sup (by (repeat (first | exact Sup.refl | apply Sup.cons (by (repeat (first | exact Pick.head | apply Pick.tail | apply Pick.app))) | apply Sup.app | apply Sup.skip | apply Sup.skips)))))
    rintro _ hno
    try dsimp only
    refine J.seq ?_
    refine J.region ?_
    refine JL.step (y_move rfl) rfl rfl rfl (JL.step (y_assign rfl) rfl rfl rfl ?_)
    refine JL.nil ?_
    refine JE.then_normal ?_
    refine J.ret ?_
    refine JE.ret1 (.inl rfl) rfl rfl (by (first | exact RV.tmp rfl | exact RV.cell1 hT rfl rfl rfl (by (exact Rd1.row (by (repeat (first | exact Pick.head | apply Pick.tail | apply Pick.app))) (by rfl))) | exact RV.cellN hT rfl rfl rfl (by (first | exact RdN.rowAll (by (repeat (first | exact Pick.head | apply Pick.tail | apply Pick.app))) | exact RdN.own (by (repeat (first | exact Pick.head | apply Pick.tail | apply Pick.app))))) (by (first | rfl | assumption | (simp; done) | omega)))) ?_
    first
    | (rw [hbad (by omega), e0]
       exact ⟨rfl, fun w h => h.sup (by (repeat (first | exact Sup.refl | apply Sup.cons (by (repeat (first | exact Pick.head | apply Pick.tail | apply Pick.app))) | apply Sup.app | apply Sup.skip | apply Sup.skips)))⟩)
    | (have hn6 : c.kind = 6 ∧ c.count < 0 := by omega
       have e1 : lineD c = [] := by unfold lineD; rw [if_pos hn6]
       rw [e1, e0]
       exact ⟨rfl, fun w h => h.sup (by (repeat (first | exact Sup.refl | apply Sup.cons (by (repeat (first | exact Pick.head | apply Pick.tail | apply Pick.app))) | apply Sup.app | apply Sup.skip | apply Sup.skips)))⟩)
    | (have e1 : lineD c = lineC c := by unfold lineD; rw [if_neg hno]
       rw [e1]
       exact ⟨rfl, fun w h => h.sup (by (repeat (first | exact Sup.refl | apply Sup.cons (by (repeat (first | exact Pick.head | apply Pick.tail | apply Pick.app))) | apply Sup.app | apply Sup.skip | apply Sup.skips)))⟩)
/-- The document's Print. -/
theorem rprint_spec (c : CmT) (l : List HProp) (hk : CmOk c) (hn : c.name.length ≤ 1000) (ht : c.text.length ≤ 1000) (hc : R64i c.count) :
    Fc prog E 32 [.agg (cmE c).toArray].toArray l (fun v l' => v = .tuple #[.string (strOf (if chkC c then lineC c else [])), .bool (chkC c)] ∧ l' = l) := by
  refine Fc.eqs ?_
  have e0 : strOf [] = ⟨#[]⟩ := by unfold strOf; rfl
  obtain ⟨hch, hld⟩ := chkD_eq c
  have hll : (lineD c).length ≤ 4000 ∧ Bys (lineD c) := by
    have := lineC_le hk hn ht hc
    unfold lineD
    split
    · exact ⟨by simp, Bys.nil⟩
    · exact this
  have hcl : (cmE c).length = i27.size := cmE_length hk.key
  have hdk := cmdF_ok hll.2
  obtain ⟨d, hd⟩ : ∃ d, (cmdF (lineD c)).1 = d := ⟨_, rfl⟩
  obtain ⟨e, he⟩ : ∃ e, (cmdF (lineD c)).2.1 = e := ⟨_, rfl⟩
  have hch2 : chkC c = (decide (e = 0) && decide (d = c)) := by rw [← hch]; unfold chkD; rw [hd, he]
  rw [hd] at hdk
  have hdl : (cmE d).length = i27.size := cmE_length hdk.key
  obtain ⟨be, hbe⟩ : ∃ b, decide (¬ e = 0) = b := ⟨_, rfl⟩
  obtain ⟨bd, hbd⟩ : ∃ b, decide (¬ d = c) = b := ⟨_, rfl⟩
  have hbd2 : bd = true ↔ ¬ cmE d = cmE c := by rw [cmE_inj hdk hk, ← hbd, decide_eq_true_eq]
  refine Fc.of_body (c := ?codeC) Tryz.func32 ?hb Tryz.ntmps32 ?hl ?_
  case hb => exact rfl
  case hl => exact rfl
  refine J.seq ?_
  refine J.region ?_
  refine JL.loud rfl (l_box rfl (by (first | rfl | simp)) rfl (fun b1 => ?_))
  refine JL.step (y_assign rfl) rfl rfl rfl (JL.step (y_assign rfl) rfl rfl rfl ?_)
  refine JL.nil ?_
  refine JE.then_normal ?_
  refine J.seq ?_
  refine J.region ?_
  refine JL.step (y_loadN hT rfl rfl rfl (RdN.rowAll (by (repeat (first | exact Pick.head | apply Pick.tail | apply Pick.app)))) hcl) rfl rfl rfl ?_
  refine JL.loud rfl (l_callF e61 rfl rfl (rline_spec E c _ hk hn ht hc) ?_)
  rintro _ _ ⟨rfl, rfl⟩
  refine JL.step (y_assign rfl) rfl rfl rfl ?_
  refine JL.nil ?_
  refine JE.then_normal ?_
  refine J.seq ?_
  refine J.region ?_
  refine JL.step (y_move rfl) rfl rfl rfl ?_
  refine JL.loud rfl (l_callF e14 rfl rfl (hd ▸ he ▸ rcommand_spec E (lineD c) _ hll.2 (by omega)) ?_)
  rintro _ _ ⟨rfl, rfl⟩
  refine JL.step (y_move rfl) rfl rfl rfl (JL.step (y_extract rfl rfl) rfl rfl rfl (JL.step (y_extract rfl rfl) rfl rfl rfl ?_))
  refine JL.loud rfl (l_alloc hT rfl rfl (by (first | rfl | simp)) rfl (fun b4 => ?_))
  refine JL.loud rfl (l_alloc hT rfl rfl (by (first | rfl | simp)) rfl (fun b5 => ?_))
  have hone := cmE_one d
  refine JL.loud rfl (l_storeAll hT rfl rfl rfl hdl hone (by (repeat (first | exact Pick.head | apply Pick.tail | apply Pick.app))) (by (first | rfl | assumption | (simp; done) | omega)) ?_)
  refine JL.loud rfl (l_storeAll hT rfl rfl rfl (by (first | rfl | assumption | (simp; done) | omega)) (by (first | assumption | exact ones_of rfl | exact encW_one _ | exact encB_one _ | (intro u hu; simp at hu; rcases hu with rfl | rfl <;> rfl) | (intro u hu; simp at hu; subst hu; rfl) | simp)) (by (repeat (first | exact Pick.head | apply Pick.tail | apply Pick.app))) (by (first | rfl | assumption | (simp; done) | omega)) ?_)
  refine JL.nil ?_
  refine JE.then_normal ?_
  refine J.seq ?_
  refine J.seq ?_
  rcases be with _ | _
  all_goals
    refine J.region ?_
    refine JL.step (y_fieldAddr hT rfl rfl rfl rfl rfl rfl) rfl rfl rfl ?_
    refine JL.step (y_load1 hT rfl rfl rfl (by (exact Rd1.row (by (repeat (first | exact Pick.head | apply Pick.tail | apply Pick.app))) (by rfl)))) rfl rfl rfl ?_
    all_goals refine JL.step (y_neqB rfl rfl hbe) rfl rfl rfl ?_
    refine JL.step (y_move rfl) rfl rfl rfl ?_
    all_goals (first | (refine JL.gsplit_dec rfl rfl rfl (fun h => ?_) (fun h => ?_) <;> try (first | (exfalso; omega) | exact absurd rfl h)) | (refine JL.gsplit rfl rfl rfl (fun h => ?_) (fun h => ?_) <;> try (first | cases h | (exfalso; simp at h; done))) | skip)
    all_goals (first | refine JL.gskip rfl rfl rfl rfl rfl rfl ?_ | refine JL.gskipU rfl rfl rfl rfl rfl ?_ | refine JL.gstep rfl rfl rfl (y_loadN hT rfl rfl rfl (RdN.rowAll (by (repeat (first | exact Pick.head | apply Pick.tail | apply Pick.app)))) hdl) rfl rfl ?_)
    all_goals (first | refine JL.gskip rfl rfl rfl rfl rfl rfl ?_ | refine JL.gskipU rfl rfl rfl rfl rfl ?_ | refine JL.gstep rfl rfl rfl (y_loadN hT rfl rfl rfl (RdN.rowAll (by (repeat (first | exact Pick.head | apply Pick.tail | apply Pick.app)))) hcl) rfl rfl ?_)
    all_goals (first | refine JL.gskip rfl rfl rfl rfl rfl rfl ?_ | refine JL.gskipU rfl rfl rfl rfl rfl ?_ | refine JL.gstep rfl rfl rfl (y_flat_ne (m := 4) (ks := cmK) (xs := cmE d) (ys := cmE c) (b := bd) hT (by kernel_rfl) rfl (by kernel_rfl) (by kernel_rfl) rfl rfl rfl rfl (cm_fits hdk.key) (cm_fits hk.key) hbd2) rfl rfl ?_)
    all_goals (refine JL.step (y_pick rfl rfl rfl) rfl rfl rfl ?_)
    all_goals refine JL.nil ?_
  all_goals refine JE.then_normal ?_
  all_goals
    first | apply J.cond_dec rfl | apply J.cond rfl
    case' ht =>
      intro h
      try (first | (exfalso; omega) | (cases h; done) | (exfalso; simp at h; done) | subst h)
      all_goals
        refine J.seq ?_
        refine J.region ?_
        refine JL.step (y_assign rfl) rfl rfl rfl (JL.step (y_assign rfl) rfl rfl rfl ?_)
        refine JL.nil ?_
        refine JE.then_normal ?_
        refine J.ret ?_
        refine JE.then_ret ?_
        refine JE.ret2 (.inl rfl) rfl rfl (by (first | exact RV.tmp rfl | exact RV.cell1 hT rfl rfl rfl (by (exact Rd1.row (by (repeat (first | exact Pick.head | apply Pick.tail | apply Pick.app))) (by rfl))) | exact RV.cellN hT rfl rfl rfl (by (first | exact RdN.rowAll (by (repeat (first | exact Pick.head | apply Pick.tail | apply Pick.app))) | exact RdN.own (by (repeat (first | exact Pick.head | apply Pick.tail | apply Pick.app))))) (by (first | rfl | assumption | (simp; done) | omega)))) (by (first | exact RV.tmp rfl | exact RV.cell1 hT rfl rfl rfl (by (exact Rd1.row (by (repeat (first | exact Pick.head | apply Pick.tail | apply Pick.app))) (by rfl))) | exact RV.cellN hT rfl rfl rfl (by (first | exact RdN.rowAll (by (repeat (first | exact Pick.head | apply Pick.tail | apply Pick.app))) | exact RdN.own (by (repeat (first | exact Pick.head | apply Pick.tail | apply Pick.app))))) (by (first | rfl | assumption | (simp; done) | omega)))) ?_
        clear hbd2
        first
        | (have zz : chkC c = false := by
             rw [hch2]
             by_cases q1 : e = 0 <;> by_cases q2 : d = c <;> first | (rw [decide_eq_false q1]; rfl) | (rw [decide_eq_true q1, decide_eq_false q2]; rfl) | (exfalso; simp_all; done)
           rw [zz, if_neg (by decide), e0]
           exact ⟨rfl, fun w h => h.sup (by (repeat (first | exact Sup.refl | apply Sup.cons (by (repeat (first | exact Pick.head | apply Pick.tail | apply Pick.app))) | apply Sup.app | apply Sup.skip | apply Sup.skips)))⟩)
        | (have zz : chkC c = true := by
             rw [hch2]
             by_cases q1 : e = 0 <;> by_cases q2 : d = c <;> first | (rw [decide_eq_true q1, decide_eq_true q2]; rfl) | (exfalso; simp_all; done)
           rw [zz, if_pos rfl, ← hld zz]
           exact ⟨rfl, fun w h => h.sup (by (repeat (first | exact Sup.refl | apply Sup.cons (by (repeat (first | exact Pick.head | apply Pick.tail | apply Pick.app))) | apply Sup.app | apply Sup.skip | apply Sup.skips)))⟩)
    case' hf =>
      intro h
      try (first | (exfalso; omega) | (cases h; done) | (exfalso; simp at h; done) | subst h)
      all_goals
        refine J.skip ?_
  all_goals refine JE.then_normal ?_
  all_goals
    refine J.seq ?_
    refine J.region ?_
    refine JL.step (y_move rfl) rfl rfl rfl (JL.step (y_assign rfl) rfl rfl rfl (JL.step (y_assign rfl) rfl rfl rfl ?_))
    refine JL.nil ?_
    refine JE.then_normal ?_
    refine J.ret ?_
    refine JE.ret2 (.inl rfl) rfl rfl (by (first | exact RV.tmp rfl | exact RV.cell1 hT rfl rfl rfl (by (exact Rd1.row (by (repeat (first | exact Pick.head | apply Pick.tail | apply Pick.app))) (by rfl))) | exact RV.cellN hT rfl rfl rfl (by (first | exact RdN.rowAll (by (repeat (first | exact Pick.head | apply Pick.tail | apply Pick.app))) | exact RdN.own (by (repeat (first | exact Pick.head | apply Pick.tail | apply Pick.app))))) (by (first | rfl | assumption | (simp; done) | omega)))) (by (first | exact RV.tmp rfl | exact RV.cell1 hT rfl rfl rfl (by (exact Rd1.row (by (repeat (first | exact Pick.head | apply Pick.tail | apply Pick.app))) (by rfl))) | exact RV.cellN hT rfl rfl rfl (by (first | exact RdN.rowAll (by (repeat (first | exact Pick.head | apply Pick.tail | apply Pick.app))) | exact RdN.own (by (repeat (first | exact Pick.head | apply Pick.tail | apply Pick.app))))) (by (first | rfl | assumption | (simp; done) | omega)))) ?_
    clear hbd2
    first
    | (have zz : chkC c = false := by
         rw [hch2]
         by_cases q1 : e = 0 <;> by_cases q2 : d = c <;> first | (rw [decide_eq_false q1]; rfl) | (rw [decide_eq_true q1, decide_eq_false q2]; rfl) | (exfalso; simp_all; done)
       rw [zz, if_neg (by decide), e0]
       exact ⟨rfl, fun w h => h.sup (by (repeat (first | exact Sup.refl | apply Sup.cons (by (repeat (first | exact Pick.head | apply Pick.tail | apply Pick.app))) | apply Sup.app | apply Sup.skip | apply Sup.skips)))⟩)
    | (have zz : chkC c = true := by
         rw [hch2]
         by_cases q1 : e = 0 <;> by_cases q2 : d = c <;> first | (rw [decide_eq_true q1, decide_eq_true q2]; rfl) | (exfalso; simp_all; done)
       rw [zz, if_pos rfl, ← hld zz]
       exact ⟨rfl, fun w h => h.sup (by (repeat (first | exact Sup.refl | apply Sup.cons (by (repeat (first | exact Pick.head | apply Pick.tail | apply Pick.app))) | apply Sup.app | apply Sup.skip | apply Sup.skips)))⟩)
end
end
section
open Go Go.SL
section
theorem cmd_cut {c : CmT} (hk : CmOk c) : CmOk { c with name := c.name.take 700, text := c.text.take 700 } := ⟨hk.key, hk.kb, hk.name.take _, hk.text.take _⟩
end
section
attribute [local irreducible] J JL JE JM LS Y Fc RV Code.wp wpList Code.wpIn wpListIn
attribute [local irreducible] Yc strOf valD dig
variable (E : World)
theorem line_prints (c0 : CmT) (l : List HProp) (hk0 : CmOk c0) (hc : R64i c0.count) (hK : K24 E l) : Fc prog E 9 [.agg (cmE c0).toArray].toArray l (fun v l' => v = .bool true ∧ l' = l) := by
  refine Fc.eqs ?_
  have hat34 := cm_at34 hk0.key
  obtain ⟨c, hcc⟩ : ∃ c : CmT, { c0 with name := c0.name.take 700, text := c0.text.take 700 } = c := ⟨_, rfl⟩
  have hk : CmOk c := hcc ▸ cmd_cut hk0
  have hcR : R64i c.count := by rw [← hcc]; exact hc
  have hn : c.name.length ≤ 1000 := by rw [← hcc]; dsimp only; rw [List.length_take]; omega
  have ht : c.text.length ≤ 1000 := by rw [← hcc]; dsimp only; rw [List.length_take]; omega
  have hcl : (cmE c).length = i27.size := cmE_length hk.key
  have hcl0 : (cmE c0).length = 36 := cmE_length hk0.key
  have hset : ((cmE c0).set 1 (.string (strOf (c0.name.take 700)))).set 34 (.string (strOf (c0.text.take 700))) = cmE c := by
    rw [← hcc, cm_set1, cm_set34 (c := { c0 with name := c0.name.take 700 }) hk0.key]
  have hch := lineC_le hk hn ht hcR
  obtain ⟨b, hb⟩ : ∃ b, chkC c = b := ⟨_, rfl⟩
  refine Fc.of_body (c := ?codeC) Tryz.func9 ?hb Tryz.ntmps9 ?hl ?_
  case hb => exact rfl
  case hl => exact rfl
  refine J.seq ?_
  refine J.region ?_
  refine JL.loud rfl (l_box rfl (by (first | rfl | simp)) rfl (fun b1 => ?_))
  refine JL.step (y_assign rfl) rfl rfl rfl ?_
  refine JL.nil ?_
  refine JE.then_normal ?_
  refine J.seq ?_
  refine J.seq ?_
  refine J.region ?_
  refine JL.loud rfl (l_callF e11 rfl rfl (wakes_spec E _ (hK.cons _)) ?_)
  rintro _ _ ⟨rfl, rfl⟩
  refine JL.step (y_not rfl) rfl rfl rfl ?_
  refine JL.nil ?_
  refine JE.then_normal ?_
  refine J.cond_f rfl (by (first | rfl | assumption | (simp; done) | (simp; omega))) ?_
  refine J.skip ?_
  refine JE.then_normal ?_
  refine J.seq ?_
  refine J.draw _ _ [(0, .e), (1, .e), (2, .q), (3, .e), (4, .e), (5, .q), (6, .q), (7, .l), (8, .q), (9, .l)] mixed (by kernel_rfl) (Split.cons (Pick.head) (Split.nil)) ?_
  refine JM.early rfl rfl rfl rfl (fun fr => y_fieldAddr hT rfl rfl rfl rfl rfl rfl) ?_
  refine JM.early rfl rfl rfl rfl (fun fr => y_load1 hT rfl rfl rfl (by (exact Rd1.row (by (repeat (first | exact Pick.head | apply Pick.tail | apply Pick.app))) (by rfl)))) ?_
  refine JM.quiet rfl rfl rfl rfl (fun m => y_callF e12 rfl (lawcut_spec E c0.name _ hk0.name)) ?_
  refine JM.early rfl rfl rfl rfl (fun fr => y_fieldAddr hT rfl rfl rfl rfl rfl rfl) ?_
  refine JM.early rfl rfl rfl rfl (fun fr => y_load1 hT rfl rfl rfl (Rd1.row (by (repeat (first | exact Pick.head | apply Pick.tail | apply Pick.app))) hat34)) ?_
  refine JM.quiet rfl rfl rfl rfl (fun m => y_callF e12 rfl (lawcut_spec E c0.text _ hk0.text)) ?_
  refine JM.quiet rfl rfl rfl rfl (fun m => y_fieldAddr hT rfl rfl rfl rfl rfl rfl) ?_
  refine JM.loud rfl rfl (fun fr => l_store1 hT rfl rfl rfl rfl rfl (by (repeat (first | exact Pick.head | apply Pick.tail | apply Pick.app))) (by rw [hcl0]; decide) ⟨[_], (by (repeat (first | exact Split.nil | exact Split.all | refine Split.cons Pick.head ?_))), ?_⟩)
  refine JM.quiet rfl rfl rfl rfl (fun m => y_fieldAddr hT rfl rfl rfl rfl rfl rfl) ?_
  refine JM.loud rfl rfl (fun fr => l_store1 hT rfl rfl rfl rfl rfl (by (repeat (first | exact Pick.head | apply Pick.tail | apply Pick.app))) (by rw [List.length_set, hcl0]; decide) ⟨[_], (by (repeat (first | exact Split.nil | exact Split.all | refine Split.cons Pick.head ?_))), ?_⟩)
  refine JM.nil ?_
  refine JE.then_normal ?_
  refine J.seq ?_
  refine J.pre (l' := row b1 27 (cmE c) :: l) (fun w9 h => by
    rw [← hset]
    exact h.sup (by (repeat (first | exact Sup.refl | apply Sup.cons (by (repeat (first | exact Pick.head | apply Pick.tail | apply Pick.app))) | apply Sup.app | apply Sup.skip | apply Sup.skips)))) ?_
  refine J.region ?_
  refine JL.step (y_loadN hT rfl rfl rfl (RdN.rowAll (by (repeat (first | exact Pick.head | apply Pick.tail | apply Pick.app)))) hcl) rfl rfl rfl ?_
  refine JL.loud rfl (l_callF e31 rfl rfl (print24_spec E c _ hk hn ht hcR (hK.cons _)) ?_)
  rintro _ _ ⟨rfl, rfl⟩
  refine JL.step (y_move rfl) rfl rfl rfl (JL.step (y_extract rfl rfl) rfl rfl rfl (JL.step (y_extract rfl rfl) rfl rfl rfl (JL.step (y_assign rfl) rfl rfl rfl (JL.step (y_assign rfl) rfl rfl rfl ?_))))
  refine JL.nil ?_
  refine JE.then_normal ?_
  refine J.seq ?_
  refine J.region ?_
  refine JL.step (y_loadN hT rfl rfl rfl (RdN.rowAll (by (repeat (first | exact Pick.head | apply Pick.tail | apply Pick.app)))) hcl) rfl rfl rfl ?_
  refine JL.loud rfl (l_callF e32 rfl rfl (hb ▸ rprint_spec E c _ hk hn ht hcR) ?_)
  rintro _ _ ⟨rfl, rfl⟩
  refine JL.step (y_move rfl) rfl rfl rfl (JL.step (y_extract rfl rfl) rfl rfl rfl (JL.step (y_extract rfl rfl) rfl rfl rfl (JL.step (y_assign rfl) rfl rfl rfl (JL.step (y_assign rfl) rfl rfl rfl ?_))))
  refine JL.nil ?_
  refine JE.then_normal ?_
  refine J.seq ?_
  refine J.seq ?_
  have hpr : printC c = if b then (lineC c, 0) else ([], 2) := by unfold printC; rw [hb]
  rw [hpr]
  rcases b with _ | _
  all_goals
    refine J.region ?_
    refine JL.step (y_move rfl) rfl rfl rfl (JL.step (y_not rfl) rfl rfl rfl ?_)
    refine JL.nil ?_
  all_goals refine JE.then_normal ?_
  all_goals
    first | apply J.cond_dec rfl | apply J.cond rfl
    case' ht =>
      intro h
      try (first | (exfalso; omega) | (cases h; done) | (exfalso; simp at h; done) | subst h)
      all_goals
        refine J.seq ?_
        refine J.region ?_
        refine JL.step (y_move rfl) rfl rfl rfl (JL.step (y_eql rfl rfl) rfl rfl rfl (JL.step (y_move rfl) rfl rfl rfl ?_))
        all_goals (first | (refine JL.gsplit_dec rfl rfl rfl (fun h => ?_) (fun h => ?_) <;> try (first | (exfalso; omega) | exact absurd rfl h)) | (refine JL.gsplit rfl rfl rfl (fun h => ?_) (fun h => ?_) <;> try (first | cases h | (exfalso; simp at h; done))) | skip)
        all_goals (first | refine JL.gskip rfl rfl rfl rfl rfl rfl ?_ | refine JL.gskipU rfl rfl rfl rfl rfl ?_ | refine JL.gstep rfl rfl rfl (y_move rfl) rfl rfl ?_)
        all_goals (first | refine JL.gskip rfl rfl rfl rfl rfl rfl ?_ | refine JL.gskipU rfl rfl rfl rfl rfl ?_ | refine JL.gstep rfl rfl rfl (y_eqS (xs := []) (ys := []) (b := true) Bys.nil Bys.nil rfl (by unfold strOf; rfl) (by simp)) rfl rfl ?_)
        all_goals (refine JL.step (y_pick rfl rfl rfl) rfl rfl rfl ?_)
        all_goals (refine JL.step (y_move rfl) rfl rfl rfl ?_)
        all_goals (first | (refine JL.gsplit_dec rfl rfl rfl (fun h => ?_) (fun h => ?_) <;> try (first | (exfalso; omega) | exact absurd rfl h)) | (refine JL.gsplit rfl rfl rfl (fun h => ?_) (fun h => ?_) <;> try (first | cases h | (exfalso; simp at h; done))) | skip)
        all_goals (first | refine JL.gskip rfl rfl rfl rfl rfl rfl ?_ | refine JL.gskipU rfl rfl rfl rfl rfl ?_ | refine JL.gstep rfl rfl rfl (y_loadN hT rfl rfl rfl (RdN.rowAll (by (repeat (first | exact Pick.head | apply Pick.tail | apply Pick.app)))) hcl) rfl rfl ?_)
        all_goals (first | refine JL.gskip rfl rfl rfl rfl rfl rfl ?_ | refine JL.gskipU rfl rfl rfl rfl rfl ?_ | (refine JL.gloud rfl rfl rfl (l_callF e33 rfl rfl (hb ▸ check24_spec E c _ hk hn ht hcR (hK.cons _)) ?_); rintro _ _ ⟨rfl, rfl⟩))
        all_goals (first | refine JL.gskip rfl rfl rfl rfl rfl rfl ?_ | refine JL.gskipU rfl rfl rfl rfl rfl ?_ | refine JL.gstep rfl rfl rfl (y_eql rfl rfl) rfl rfl ?_)
        all_goals (refine JL.step (y_pick rfl rfl rfl) rfl rfl rfl ?_)
        all_goals (refine JL.step (y_assign rfl) rfl rfl rfl ?_)
        all_goals refine JL.nil ?_
        all_goals refine JE.then_normal ?_
        all_goals
          refine J.ret ?_
          refine JE.then_ret ?_
          refine JE.ret1 (.inl rfl) rfl rfl (by (first | exact RV.tmp rfl | exact RV.cell1 hT rfl rfl rfl (by (exact Rd1.row (by (repeat (first | exact Pick.head | apply Pick.tail | apply Pick.app))) (by rfl))) | exact RV.cellN hT rfl rfl rfl (by (first | exact RdN.rowAll (by (repeat (first | exact Pick.head | apply Pick.tail | apply Pick.app))) | exact RdN.own (by (repeat (first | exact Pick.head | apply Pick.tail | apply Pick.app))))) (by (first | rfl | assumption | (simp; done) | omega)))) ?_
          exact ⟨rfl, fun w h => h.sup (by (repeat (first | exact Sup.refl | apply Sup.cons (by (repeat (first | exact Pick.head | apply Pick.tail | apply Pick.app))) | apply Sup.app | apply Sup.skip | apply Sup.skips)))⟩
    case' hf =>
      intro h
      try (first | (exfalso; omega) | (cases h; done) | (exfalso; simp at h; done) | subst h)
      all_goals
        refine J.skip ?_
  all_goals refine JE.then_normal ?_
  all_goals
    refine J.seq ?_
    refine J.region ?_
    refine JL.step (y_move rfl) rfl rfl rfl (JL.step (y_eql rfl rfl) rfl rfl rfl (JL.step (y_move rfl) rfl rfl rfl ?_))
    all_goals (first | (refine JL.gsplit_dec rfl rfl rfl (fun h => ?_) (fun h => ?_) <;> try (first | (exfalso; omega) | exact absurd rfl h)) | (refine JL.gsplit rfl rfl rfl (fun h => ?_) (fun h => ?_) <;> try (first | cases h | (exfalso; simp at h; done))) | skip)
    all_goals (first | refine JL.gskip rfl rfl rfl rfl rfl rfl ?_ | refine JL.gskipU rfl rfl rfl rfl rfl ?_ | refine JL.gstep rfl rfl rfl (y_move rfl) rfl rfl ?_)
    all_goals (first | refine JL.gskip rfl rfl rfl rfl rfl rfl ?_ | refine JL.gskipU rfl rfl rfl rfl rfl ?_ | refine JL.gstep rfl rfl rfl (y_move rfl) rfl rfl ?_)
    all_goals (first | refine JL.gskip rfl rfl rfl rfl rfl rfl ?_ | refine JL.gskipU rfl rfl rfl rfl rfl ?_ | refine JL.gstep rfl rfl rfl (y_eqS (b := true) hch.2 hch.2 rfl rfl (by simp)) rfl rfl ?_)
    all_goals (refine JL.step (y_pick rfl rfl rfl) rfl rfl rfl ?_)
    all_goals (refine JL.step (y_move rfl) rfl rfl rfl ?_)
    all_goals (first | (refine JL.gsplit_dec rfl rfl rfl (fun h => ?_) (fun h => ?_) <;> try (first | (exfalso; omega) | exact absurd rfl h)) | (refine JL.gsplit rfl rfl rfl (fun h => ?_) (fun h => ?_) <;> try (first | cases h | (exfalso; simp at h; done))) | skip)
    all_goals (first | refine JL.gskip rfl rfl rfl rfl rfl rfl ?_ | refine JL.gskipU rfl rfl rfl rfl rfl ?_ | refine JL.gstep rfl rfl rfl (y_loadN hT rfl rfl rfl (RdN.rowAll (by (repeat (first | exact Pick.head | apply Pick.tail | apply Pick.app)))) hcl) rfl rfl ?_)
    all_goals (first | refine JL.gskip rfl rfl rfl rfl rfl rfl ?_ | refine JL.gskipU rfl rfl rfl rfl rfl ?_ | (refine JL.gloud rfl rfl rfl (l_callF e33 rfl rfl (hb ▸ check24_spec E c _ hk hn ht hcR (hK.cons _)) ?_); rintro _ _ ⟨rfl, rfl⟩))
    all_goals (first | refine JL.gskip rfl rfl rfl rfl rfl rfl ?_ | refine JL.gskipU rfl rfl rfl rfl rfl ?_ | refine JL.gstep rfl rfl rfl (y_eql rfl rfl) rfl rfl ?_)
    all_goals (refine JL.step (y_pick rfl rfl rfl) rfl rfl rfl ?_)
    all_goals (refine JL.step (y_assign rfl) rfl rfl rfl ?_)
    all_goals refine JL.nil ?_
    all_goals refine JE.then_normal ?_
    all_goals
      refine J.ret ?_
      refine JE.ret1 (.inl rfl) rfl rfl (by (first | exact RV.tmp rfl | exact RV.cell1 hT rfl rfl rfl (by (exact Rd1.row (by (repeat (first | exact Pick.head | apply Pick.tail | apply Pick.app))) (by rfl))) | exact RV.cellN hT rfl rfl rfl (by (first | exact RdN.rowAll (by (repeat (first | exact Pick.head | apply Pick.tail | apply Pick.app))) | exact RdN.own (by (repeat (first | exact Pick.head | apply Pick.tail | apply Pick.app))))) (by (first | rfl | assumption | (simp; done) | omega)))) ?_
      exact ⟨rfl, fun w h => h.sup (by (repeat (first | exact Sup.refl | apply Sup.cons (by (repeat (first | exact Pick.head | apply Pick.tail | apply Pick.app))) | apply Sup.app | apply Sup.skip | apply Sup.skips)))⟩
end
end
end Go.Proofs.YtccagffapohkhaaGreatDoor
