import Derived.Test.YtccagffapohkhaaGreatDoorJoin1
import Derived.Test.YtccagffapohkhaaGreatDoorJoin7
namespace Go.Proofs.YtccagffapohkhaaGreatDoor
section
open Go Go.SL
section
def sendW : List Int := [115, 101, 110, 100, 32, 98, 111, 32, 104, 105, 32, 32, 116, 104, 101, 114, 101]
def cmW : CmT := ⟨4, [98, 111], zer32, [104, 105, 32, 32, 116, 104, 101, 114, 101], 0⟩
theorem cmdF_W : cmdF sendW = (cmW, 0, 0) := by decide +kernel
def rpW : RpT := ⟨7, zer32, [], [], 0, 2, 1, 0, 0⟩
def lnW : List Int := [115, 116, 97, 116, 117, 115, 32, 50, 32, 49, 32, 48]
theorem numB_one (u : Nat) (h : u < 10) : numB [(48 + u : Int)] = true := by
  have := numB_dig (u := u) (by omega)
  rwa [dig_small h] at this
theorem printW_W : printW rpW = [wStatus, [50], [49], [48]] := by
  show [wStatus, numT ((2 : Nat) : Int), numT ((1 : Nat) : Int), numT ((0 : Nat) : Int)] = _
  rw [numT_nat, numT_nat, numT_nat, dig_small (by decide), dig_small (by decide), dig_small (by decide)]
  rfl
theorem lineR_W : lineR rpW = lnW := by unfold lineR; rw [printW_W]; rfl
theorem repF_W : repF lnW = some rpW := by
  unfold repF
  rw [if_neg (by decide), show headW lnW = wStatus by decide, replyF_status, show splitW (lnW.drop (wStatus.length + 1)) = [[50], [49], [48]] by decide +kernel]
  have h2 := numB_one 2 (by decide)
  have h1 := numB_one 1 (by decide)
  have h0 := numB_one 0 (by decide)
  show (if (numB [50] && numB [49] && numB [48]) = true then _ else _) = _
  rw [show numB [50] = true from h2, show numB [49] = true from h1, show numB [48] = true from h0]
  rfl
theorem repR_W : repR lnW = rpW := by unfold repR; rw [repF_W]; rfl
theorem repS_W : repS lnW = (0, 0) := by unfold repS; rw [if_neg (by decide), repF_W]; rfl
theorem chk_W : chkB rpW = true := by
  unfold chkB
  rw [lineR_W, repR_W, repS_W]
  simp [rpW]
theorem printF_W : printF rpW = (lnW, 0) := by unfold printF; rw [chk_W, lineR_W]; rfl
theorem rpW_b : RpB rpW := ⟨rfl, zer32_bys, by decide, by decide, fun _ q => (by cases q), fun _ q => (by cases q), ⟨by decide, by decide⟩, ⟨by decide, by decide⟩, ⟨by decide, by decide⟩, ⟨by decide, by decide⟩⟩
theorem InL.nil0 {l : List HProp} : InL l none 0 0 (strs []) := ⟨Nat.le_refl _, by unfold maxLen; omega, .inr ⟨rfl, rfl⟩⟩
def cmK : List CK := .int .i64 :: .str :: (List.replicate 32 (.int .u8) ++ [.str, .int .i64])
def spK : List CK := [.int .i64, .int .i64]
theorem Fits.app : ∀ {ks1 : List CK} {xs1 : List Value} {ks2 : List CK} {xs2 : List Value}, Fits ks1 xs1 → Fits ks2 xs2 → Fits (ks1 ++ ks2) (xs1 ++ xs2)
  | [], [], _, _, _, h => h
  | _ :: _, _ :: _, _, _, ⟨h1, h2⟩, h => ⟨h1, Fits.app h2 h⟩
theorem fits_ints : ∀ (k : IntKind) (n : Nat) (xs : List Int), xs.length = n → Fits (List.replicate n (.int k)) (ints k xs)
  | _, 0, [], _ => trivial
  | k, n + 1, x :: xs, h => ⟨⟨x, rfl⟩, fits_ints k n xs (Nat.succ.inj h)⟩
theorem cm_fits {c : CmT} (h : c.key.length = 32) : Fits cmK (cmE c) := ⟨⟨_, rfl⟩, ⟨_, rfl⟩, Fits.app (fits_ints .u8 32 c.key h) ⟨⟨_, rfl⟩, ⟨_, rfl⟩, trivial⟩⟩
theorem cmW_cells : cmE cmW = .int .i64 4 :: .string ⟨#[98, 111]⟩ :: (List.replicate 32 (.int .u8 0) ++ [.string ⟨#[104, 105, 32, 32, 116, 104, 101, 114, 101]⟩, .int .i64 0]) := rfl
end
section
attribute [local irreducible] J JL JE JM LS Y Fc RV Code.wp wpList Code.wpIn wpListIn
attribute [local irreducible] Yc strOf valD dig
variable (E : World)
theorem wakes_spec (l : List HProp) (hK : K24 E l) : Fc prog E 11 [].toArray l (fun v l' => v = .bool true ∧ l' = l) := by
  refine Fc.eqs ?_
  have hsB : Bys sendW := Bys.all rfl
  have hcl : (cmE cmW).length = i27.size := rfl
  refine Fc.of_body (c := ?codeC) Tryz.func11 ?hb Tryz.ntmps11 ?hl ?_
  case hb => exact rfl
  case hl => exact rfl
  refine J.seq ?_
  refine J.region ?_
  refine JL.step (y_assign rfl) rfl rfl rfl ?_
  refine JL.nil ?_
  refine JE.then_normal ?_
  refine J.seq ?_
  have hcw : Fc prog E 13 [Value.string ⟨#[115, 101, 110, 100, 32, 98, 111, 32, 104, 105, 32, 32, 116, 104, 101, 114, 101]⟩].toArray l (fun v l' => v = .tuple #[.agg (cmE cmW).toArray, .agg #[.int .i64 0, .int .i64 0]] ∧ l' = l) := by
    have h := command_spec E sendW l hsB (by decide) hK
    rw [cmdF_W, show strOf sendW = ⟨#[115, 101, 110, 100, 32, 98, 111, 32, 104, 105, 32, 32, 116, 104, 101, 114, 101]⟩ by unfold strOf; rfl] at h
    exact h
  refine J.region ?_
  refine JL.loud rfl (l_callF e13 rfl rfl (hcw) ?_)
  rintro _ l6 ⟨rfl, e6⟩
  obtain rfl := e6.symm
  refine JL.step (y_move rfl) rfl rfl rfl (JL.step (y_extract rfl rfl) rfl rfl rfl (JL.step (y_extract rfl rfl) rfl rfl rfl ?_))
  refine JL.loud rfl (l_alloc hT rfl rfl (by (first | rfl | simp)) rfl (fun b2 => ?_))
  refine JL.loud rfl (l_alloc hT rfl rfl (by (first | rfl | simp)) rfl (fun b3 => ?_))
  refine JL.loud rfl (l_storeAll hT rfl rfl rfl hcl (cmE_one _) (by (repeat (first | exact Pick.head | apply Pick.tail | apply Pick.app))) (by (first | rfl | assumption | (simp; done) | omega)) ?_)
  refine JL.loud rfl (l_storeAll hT rfl rfl rfl (by (first | rfl | assumption | (simp; done) | omega)) (by (first | assumption | exact ones_of rfl | exact encW_one _ | exact encB_one _ | (intro u hu; simp at hu; rcases hu with rfl | rfl <;> rfl) | (intro u hu; simp at hu; subst hu; rfl) | simp)) (by (repeat (first | exact Pick.head | apply Pick.tail | apply Pick.app))) (by (first | rfl | assumption | (simp; done) | omega)) ?_)
  refine JL.nil ?_
  refine JE.then_normal ?_
  refine J.seq ?_
  refine J.region ?_
  refine JL.step (y_build (cs := rpE rpW (.slice none 0 0) (.slice none 0 0)) hT rfl rfl rfl rfl rfl rfl ⟨⟨rfl, Nat.le_of_ble_eq_true rfl⟩, ⟨rfl, Nat.le_of_ble_eq_true rfl⟩, ⟨rfl, Nat.le_of_ble_eq_true rfl⟩, trivial⟩ rfl) rfl rfl rfl ?_
  refine JL.loud rfl (l_callF e16 rfl rfl (printP_spec E rpW none 0 none 0 _ rpW_b (by rw [lineR_W, repR_W]; exact rpW_b) InL.nil0 InL.nil0 ((hK.cons _).cons _)) ?_)
  rintro _ l11 ⟨rfl, e11⟩
  obtain rfl := e11.symm
  rw [printF_W]
  refine JL.step (y_move rfl) rfl rfl rfl (JL.step (y_extract rfl rfl) rfl rfl rfl (JL.step (y_extract rfl rfl) rfl rfl rfl (JL.step (y_assign rfl) rfl rfl rfl (JL.step (y_assign rfl) rfl rfl rfl ?_))))
  refine JL.nil ?_
  refine JE.then_normal ?_
  refine J.seq ?_
  refine J.region ?_
  refine JL.step (y_loadN hT rfl rfl rfl (by (first | exact RdN.rowAll (by (repeat (first | exact Pick.head | apply Pick.tail | apply Pick.app))) | exact RdN.own (by (repeat (first | exact Pick.head | apply Pick.tail | apply Pick.app))))) (by (first | rfl | assumption | (simp; done) | omega))) rfl rfl rfl ?_
  refine JL.step (y_build (cs := [_, _]) hT rfl rfl rfl rfl rfl rfl trivial rfl) rfl rfl rfl ?_
  refine JL.step (v := .bool true) (y_flat_eq (m := 3) (ks := spK) (xs := [.int .i64 0, .int .i64 0]) (ys := [.int .i64 0, .int .i64 0]) (b := true) hT (by kernel_rfl) rfl (by kernel_rfl) (by kernel_rfl) rfl rfl rfl rfl ⟨⟨_, rfl⟩, ⟨_, rfl⟩, trivial⟩ ⟨⟨_, rfl⟩, ⟨_, rfl⟩, trivial⟩ (by simp)) rfl rfl rfl ?_
  refine JL.step (y_move rfl) rfl rfl rfl ?_
  all_goals (first | (refine JL.gsplit_dec rfl rfl rfl (fun h => ?_) (fun h => ?_) <;> try (first | (exfalso; omega) | exact absurd rfl h)) | (refine JL.gsplit rfl rfl rfl (fun h => ?_) (fun h => ?_) <;> try (first | cases h | (exfalso; simp at h; done))) | skip)
  all_goals (first | refine JL.gskip rfl rfl rfl rfl rfl rfl ?_ | refine JL.gskipU rfl rfl rfl rfl rfl ?_ | refine JL.gstep rfl rfl rfl (y_move rfl) rfl rfl ?_)
  all_goals (first | refine JL.gskip rfl rfl rfl rfl rfl rfl ?_ | refine JL.gskipU rfl rfl rfl rfl rfl ?_ | refine JL.gstep rfl rfl rfl (y_eql rfl rfl) rfl rfl ?_)
  all_goals (refine JL.step (y_pick rfl rfl rfl) rfl rfl rfl ?_)
  all_goals (refine JL.step (y_move rfl) rfl rfl rfl ?_)
  all_goals (first | (refine JL.gsplit_dec rfl rfl rfl (fun h => ?_) (fun h => ?_) <;> try (first | (exfalso; omega) | exact absurd rfl h)) | (refine JL.gsplit rfl rfl rfl (fun h => ?_) (fun h => ?_) <;> try (first | cases h | (exfalso; simp at h; done))) | skip)
  all_goals (first | refine JL.gskip rfl rfl rfl rfl rfl rfl ?_ | refine JL.gskipU rfl rfl rfl rfl rfl ?_ | refine JL.gstep rfl rfl rfl (y_loadN hT rfl rfl rfl (RdN.rowAll (by (repeat (first | exact Pick.head | apply Pick.tail | apply Pick.app)))) hcl) rfl rfl ?_)
  all_goals (first | refine JL.gskip rfl rfl rfl rfl rfl rfl ?_ | refine JL.gskipU rfl rfl rfl rfl rfl ?_ | refine JL.gstep rfl rfl rfl (y_build (cs := [_, _, _, _, _, _, _, _, _, _, _, _, _, _, _, _, _, _, _, _, _, _, _, _, _, _, _, _, _, _, _, _, _, _, _, _]) hT rfl rfl rfl rfl rfl rfl ⟨⟨(by (first | rfl | assumption | (simp; done) | omega)), Nat.le_of_ble_eq_true rfl⟩, ⟨⟨(by (first | rfl | assumption | (simp; done) | omega)), Nat.le_of_ble_eq_true rfl⟩, ⟨⟨(by (first | rfl | assumption | (simp; done) | omega)), Nat.le_of_ble_eq_true rfl⟩, trivial⟩⟩⟩ rfl) rfl rfl ?_)
  all_goals (first | refine JL.gskip rfl rfl rfl rfl rfl rfl ?_ | refine JL.gskipU rfl rfl rfl rfl rfl ?_ | refine JL.gstep rfl rfl rfl (Y.cast (y_flat_eq (m := 4) (ks := cmK) (xs := cmE cmW) (ys := (.int .i64 4 :: .string ⟨#[98, 111]⟩ :: (List.replicate 32 (.int .u8 0) ++ [.string ⟨#[104, 105, 32, 32, 116, 104, 101, 114, 101]⟩, .int .i64 0]))) (b := true) hT (by kernel_rfl) rfl (by kernel_rfl) (by kernel_rfl) rfl rfl rfl rfl (cm_fits rfl) (cmW_cells ▸ cm_fits (c := cmW) rfl) ⟨fun _ => cmW_cells, fun _ => rfl⟩) rfl) rfl rfl ?_)
  all_goals (refine JL.step (y_pick rfl rfl rfl) rfl rfl rfl ?_)
  all_goals (refine JL.step (y_move rfl) rfl rfl rfl ?_)
  all_goals (first | (refine JL.gsplit_dec rfl rfl rfl (fun h => ?_) (fun h => ?_) <;> try (first | (exfalso; omega) | exact absurd rfl h)) | (refine JL.gsplit rfl rfl rfl (fun h => ?_) (fun h => ?_) <;> try (first | cases h | (exfalso; simp at h; done))) | skip)
  all_goals (first | refine JL.gskip rfl rfl rfl rfl rfl rfl ?_ | refine JL.gskipU rfl rfl rfl rfl rfl ?_ | refine JL.gstep rfl rfl rfl (y_move rfl) rfl rfl ?_)
  all_goals (first | (refine JL.gsplit_dec rfl rfl rfl (fun h => ?_) (fun h => ?_) <;> try (first | (exfalso; omega) | exact absurd rfl h)) | (refine JL.gsplit rfl rfl rfl (fun h => ?_) (fun h => ?_) <;> try (first | cases h | (exfalso; simp at h; done))) | skip)
  all_goals (first | refine JL.gskip rfl rfl rfl rfl rfl rfl ?_ | refine JL.gskipU rfl rfl rfl rfl rfl ?_ | refine JL.gstep rfl rfl rfl (y_eqS (xs := lnW) (ys := lnW) (b := true) (Bys.all rfl) (Bys.all rfl) rfl (by unfold strOf; rfl) (by simp)) rfl rfl ?_)
  all_goals (refine JL.step (y_pick rfl rfl rfl) rfl rfl rfl ?_)
  all_goals (refine JL.step (y_assign rfl) rfl rfl rfl ?_)
  all_goals refine JL.nil ?_
  all_goals refine JE.then_normal ?_
  all_goals
    refine J.ret ?_
    refine JE.ret1 (.inl rfl) rfl rfl (by (first | exact RV.tmp rfl | exact RV.cell1 hT rfl rfl rfl (by (exact Rd1.row (by (repeat (first | exact Pick.head | apply Pick.tail | apply Pick.app))) (by rfl))) | exact RV.cellN hT rfl rfl rfl (by (first | exact RdN.rowAll (by (repeat (first | exact Pick.head | apply Pick.tail | apply Pick.app))) | exact RdN.own (by (repeat (first | exact Pick.head | apply Pick.tail | apply Pick.app))))) (by (first | rfl | assumption | (simp; done) | omega)))) ?_
    exact ⟨rfl, fun w h => h.sup (by (repeat (first | exact Sup.refl | apply Sup.cons (by (repeat (first | exact Pick.head | apply Pick.tail | apply Pick.app))) | apply Sup.app | apply Sup.skip | apply Sup.skips)))⟩
end
end
end Go.Proofs.YtccagffapohkhaaGreatDoor
