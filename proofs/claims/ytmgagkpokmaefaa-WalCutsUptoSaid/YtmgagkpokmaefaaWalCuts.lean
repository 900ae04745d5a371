
/-
  hollowtreelaw12.WalCuts returns true for every input, and leaves its input as it was. No condition.
-/
import Derived.Test.YtmgagkpokmaefaaJoin8
import Derived.Test.YtmgagkpokmaefaaJoin9
namespace Go.Proofs.Ytmgagkpokmaefaa
open Go Go.SL
section
attribute [local irreducible] J JL JE JM LS Y Fc RV Code.wp wpList Code.wpIn wpListIn
attribute [local irreducible] Yc
variable (E : World)
set_option maxHeartbeats 2000000 in
theorem wal_cuts (p : Option Addr) (cap : Nat) (xs : List Op12) (o : Op12) (at_ : Int) (kp : Option Addr) (kc : Nat) (keep : List Bool) (K0 : HProp) (hin : InL [K0] p xs.length cap (xs.flatMap opE)) (hx : ∀ o ∈ xs, o.Ok [K0]) (ho : o.Ok [K0])
    (hink : InL [K0] kp keep.length kc (keep.map Value.bool)) (hkn : keep.length ≤ 2000000) :
    Fc prog E 10 [.slice p xs.length cap, .agg (opE o).toArray, .agg #[.int .i64 at_, .slice kp keep.length kc]].toArray [K0] (fun v l' => v = .bool true ∧ l' = [K0]) := by
  refine Fc.eqs ?_
  obtain ⟨hL0, hl0⟩ := lh_format (n := storeN 0) (storeN_le 0).1 (by have := (storeN_le 0).2; omega)
  obtain ⟨D0, hD0⟩ : ∃ D0, (Dk.new (storeN 0)).formatted = D0 := ⟨_, rfl⟩
  rw [hD0] at hL0 hl0
  have hl64 : D0.safe.length = 64 := hl0
  have hone : ∀ x ∈ xs, (opE x).length = 2 := fun x _ => rfl
  obtain ⟨m0, hm0⟩ : ∃ m, min xs.length 30 = m := ⟨_, rfl⟩
  have cfew : ∀ l, Fc prog E 31 [.slice p xs.length cap].toArray l (fun v l' => v = .slice p m0 cap ∧ l' = l) := fun l => by rw [← hm0]; exact few12_spec E p xs.length cap _ l _ hin
  obtain ⟨k, hk, hk1⟩ := range_n at_ 50 (by decide)
  have hk : (max at_ 0).tmod 50 = (k : Int) := hk
  have hel0 : (opE o).length = 2 := rfl
  have heo0 := opE_one o
  obtain ⟨b, hb⟩ : ∃ b, o.b = b := ⟨_, rfl⟩
  obtain ⟨bp, hbp⟩ : ∃ bp, o.p = bp := ⟨_, rfl⟩
  obtain ⟨bc, hbc⟩ : ∃ bc, o.c = bc := ⟨_, rfl⟩
  have hsm : Small b := by rw [← hb]; exact ho.small
  have hbin : InL [K0] bp b.length bc (ints .u8 b) := by rw [← hb, ← hbp, ← hbc]; exact ho.binl
  have cbytes : ∀ l, Fc prog E 32 [.agg (opE o).toArray].toArray l (fun v l' => v = .slice bp b.length bc ∧ l' = l) := fun l => by rw [← hb, ← hbp, ← hbc]; exact bytes12_spec E o l [K0] ho
  have hmore : Small [109, 111, 114, 101] := ⟨fun x h => by simp at h; omega, by decide⟩
  refine Fc.of_body (c := ?codeC) Try.func10 ?hb Try.ntmps10 ?hl ?_
  case hb => exact rfl
  case hl => exact rfl
  refine J.seq ?_
  refine J.region ?_
  refine JL.loud rfl (l_box rfl (by (first | rfl | simp)) rfl (fun b4 => ?_))
  refine JL.loud rfl (l_box (cs := [.int .i64 at_, .slice kp keep.length kc]) rfl (by (first | rfl | simp)) rfl (fun b5 => ?_))
  refine JL.step (y_assign rfl) rfl rfl rfl ?_
  refine JL.nil ?_
  refine JE.then_normal ?_
  refine J.seq ?_
  refine J.seq ?_
  refine J.region ?_
  refine JL.loud rfl (l_callF e11 rfl rfl (wakes12_spec E _) ?_)
  rintro _ l1 ⟨rfl, e1⟩
  obtain rfl := e1.symm
  refine JL.step (y_not rfl) rfl rfl rfl ?_
  refine JL.nil ?_
  refine JE.then_normal ?_
  refine J.cond_f rfl (by (first | rfl | assumption | (simp; done) | (simp; omega))) ?_
  refine J.skip ?_
  refine JE.then_normal ?_
  refine J.seq ?_
  refine J.region ?_
  refine JL.loud rfl (l_callF e12 rfl rfl (store_spec E 0 _) ?_)
  rintro _ _ ⟨d, st, rfl, rfl⟩
  refine JL.step (y_move rfl) rfl rfl rfl ?_
  rw [hD0]
  refine JL.step (y_extract rfl rfl) rfl rfl rfl (JL.step (y_extract rfl rfl) rfl rfl rfl (JL.step (y_assign rfl) rfl rfl rfl (JL.step (y_assign rfl) rfl rfl rfl ?_)))
  refine JL.nil ?_
  refine JE.then_normal ?_
  refine J.seq ?_
  refine J.region ?_
  refine JL.step (y_move rfl) rfl rfl rfl ?_
  refine JL.loud rfl (l_callF e13 rfl rfl (Fc.on (Split.cons (by (repeat (first | exact Pick.head | apply Pick.tail | apply Pick.app))) (Split.cons (by (repeat (first | exact Pick.head | apply Pick.tail | apply Pick.app))) Split.nil)) (lopen_lh E st d sb0 D0 lg0 _ hL0)) ?_)
  rintro _ _ ⟨lg, rfl, rfl⟩
  refine JL.step (y_move rfl) rfl rfl rfl (JL.step (y_extract rfl rfl) rfl rfl rfl (JL.step (y_extract rfl rfl) rfl rfl rfl (JL.step (y_assign rfl) rfl rfl rfl (JL.step (y_assign rfl) rfl rfl rfl ?_))))
  refine JL.nil ?_
  refine JE.then_normal ?_
  refine J.seq ?_
  refine J.seq ?_
  refine J.region ?_
  refine JL.step (y_move rfl) rfl rfl rfl (JL.step (y_ptr_eq_nil hT rfl rfl rfl rfl) rfl rfl rfl (JL.step (y_move rfl) rfl rfl rfl ?_))
  all_goals (first | (refine JL.gsplit_dec rfl rfl rfl (fun h => ?_) (fun h => ?_) <;> try (first | (exfalso; omega) | exact absurd rfl h)) | (refine JL.gsplit rfl rfl rfl (fun h => ?_) (fun h => ?_) <;> try (first | cases h | (exfalso; simp at h; done))) | skip)
  all_goals (first | refine JL.gskip rfl rfl rfl rfl rfl rfl ?_ | refine JL.gskipU rfl rfl rfl rfl rfl ?_ | refine JL.gstep rfl rfl rfl (y_move rfl) rfl rfl ?_)
  all_goals (first | refine JL.gskip rfl rfl rfl rfl rfl rfl ?_ | refine JL.gskipU rfl rfl rfl rfl rfl ?_ | refine JL.gstep rfl rfl rfl (y_neq rfl rfl) rfl rfl ?_)
  all_goals (refine JL.step (y_pick rfl rfl rfl) rfl rfl rfl ?_)
  all_goals refine JL.nil ?_
  all_goals refine JE.then_normal ?_
  all_goals
    refine J.cond_f rfl (by (first | rfl | assumption | (simp; done) | (simp; omega))) ?_
    refine J.skip ?_
  all_goals refine JE.then_normal ?_
  all_goals
    refine J.seq ?_
    refine J.seq ?_
    refine J.region ?_
    refine JL.step (y_move rfl) rfl rfl rfl ?_
    refine JL.loud rfl (l_callF e31 rfl rfl (cfew _) ?_)
    rintro _ _ ⟨rfl, rfl⟩
    refine JL.step (y_len_slice hT rfl rfl rfl) rfl rfl rfl (JL.step (y_move rfl) rfl rfl rfl ?_)
    refine JL.nil ?_
    refine JE.then_normal ?_
    refine J.block ?_
    refine J.loop (α := Nat × Sb × Dk × Lg) (fun s => s.1 ≤ m0 ∧ LH s.2.1 s.2.2.1 s.2.2.2 ∧ s.2.2.1.safe.length = 64 ∧ s.2.2.2.txs.length ≤ s.1 ∧ s.2.1.turn.toNat ≤ s.1) (fun s => [(4, .pointer (some ⟨b4, 0, none⟩)), (5, .pointer (some ⟨b5, 0, none⟩)), (7, .pointer (some ⟨d, 0, none⟩)), (9, .pointer (some ⟨lg, 0, none⟩)), (40, .slice p m0 cap), (41, .int .i64 m0), (42, .int .i64 s.1)]) (fun s => logm lg st s.2.2.2 :: row st 90 (scells s.2.1 d) :: disk d s.2.2.1 :: row b4 61 (opE o) :: row b5 72 [.int .i64 at_, .slice kp keep.length kc] :: [K0]) (fun s => m0 - s.1) (0, sb0, D0, lg0) ⟨Nat.zero_le _, hL0, hl64, Nat.le_refl _, Nat.le_refl _⟩ ⟨rfl, rfl, rfl, rfl, rfl, rfl, rfl, trivial⟩ (fun w h => h.sup (by (repeat (first | exact Sup.refl | apply Sup.cons (by (repeat (first | exact Pick.head | apply Pick.tail | apply Pick.app))) | apply Sup.app | apply Sup.skip | apply Sup.skips)))) ?_
    rintro ⟨i, S, D, L⟩ ⟨hi, hL, hl, hfew, htn⟩
    dsimp only at hi hL hl hfew htn ⊢
    refine J.seq ?_
    refine J.region ?_
    refine JL.step (y_lss rfl rfl) rfl rfl rfl ?_
    refine JL.nil ?_
    refine JE.then_normal ?_
    refine J.seq ?_
    focus
      first | apply J.cond_dec rfl | apply J.cond rfl
      focus
        intro h
        try (first | (exfalso; omega) | (cases h; done) | (exfalso; simp at h; done) | subst h)
        all_goals
          refine J.skip ?_
      rotate_right 1
      focus
        intro h
        try (first | (exfalso; omega) | (cases h; done) | (exfalso; simp at h; done) | subst h)
        all_goals
          refine J.exit ?_
          refine JE.then_exit ?_
          refine JE.then_exit ?_
          refine JE.block_exit ?_
          refine JE.then_normal ?_
          refine J.seq ?_
          refine J.region ?_
          refine JL.step (y_move rfl) rfl rfl rfl ?_
          refine JL.loud rfl (l_callF e39 rfl rfl (Fc.on (Split.cons (by (repeat (first | exact Pick.head | apply Pick.tail | apply Pick.app))) Split.nil) (of_spec E lg st L _)) ?_)
          rintro _ _ ⟨bcs, K1, rfl, ⟨p1, c1, q1, d1, v1, rfl, hs1, hq1, hx1⟩, rfl⟩
          refine JL.loud rfl (l_alloc hT rfl rfl (by (first | rfl | simp)) rfl (fun b13 => ?_))
          refine JL.loud rfl (l_storeAll hT rfl rfl rfl (by (first | rfl | assumption | (simp; done) | omega)) (by (first | assumption | exact ones_of rfl | exact encW_one _ | exact encB_one _ | (intro u hu; simp at hu; rcases hu with rfl | rfl <;> rfl) | (intro u hu; simp at hu; subst hu; rfl) | simp)) (by (repeat (first | exact Pick.head | apply Pick.tail | apply Pick.app))) (by (first | rfl | assumption | (simp; done) | omega)) ?_)
          refine JL.nil ?_
          refine JE.then_normal ?_
          refine J.seq ?_
          refine J.seq ?_
          refine J.region ?_
          refine JL.step (y_move rfl) rfl rfl rfl (JL.step (y_fieldAddr hT rfl rfl rfl rfl rfl rfl) rfl rfl rfl ?_)
          refine JL.step (y_load1 hT rfl rfl rfl (by (exact Rd1.row (by (repeat (first | exact Pick.head | apply Pick.tail | apply Pick.app))) (by rfl)))) rfl rfl rfl ?_
          refine JL.step (y_max2 rfl rfl rfl) rfl rfl rfl ?_
          refine JL.step (y_rem rfl rfl (by decide) hk) rfl rfl rfl ?_
          refine JL.loud rfl (l_callF e28 rfl rfl (Fc.on (Split.cons (by (repeat (first | exact Pick.head | apply Pick.tail | apply Pick.app))) Split.nil) (arm_lh E d _ hL k (by omega))) ?_)
          rintro _ _ ⟨rfl, rfl⟩
          refine JL.step (y_neq rfl rfl) rfl rfl rfl ?_
          refine JL.nil ?_
          refine JE.then_normal ?_
          refine J.cond_f rfl (by (first | rfl | assumption | (simp; done) | (simp; omega))) ?_
          refine J.skip ?_
          refine JE.then_normal ?_
          have hB1 : StB K1 [.slice p1 L.snap.length c1, .slice q1 L.txs.length d1] L.snap L.txs := ⟨p1, c1, q1, d1, v1, rfl, hs1, hq1, hx1⟩
          have hLb := hL.small.bytes
          have hLtb : ∀ b ∈ L.txs, Bytes b := fun b hb => (hL.smalls b hb).bytes
          have h2 := hL.holds.fits.two
          have hhash := hL.holds.fits.hash
          have hplace := hL.holds.fits.place
          have hv1 := hx1.len
          have hv1o := hx1.ones
          by_cases hkd : ¬ o.k = 1
          case' neg =>
            have hkb : decide ((o.k : Int) = 1) = true := decide_eq_true (by omega)
            obtain ⟨A, hA⟩ : ∃ A, (⟨b, [], 0, false⟩ : Lg) = A := ⟨_, rfl⟩
            have hAs : A.snap = b := by rw [← hA]
            have hAt : A.txs = [] := by rw [← hA]
            have hAb : Bytes A.snap := by rw [hAs]; exact hsm.bytes
            have hAtb : ∀ b ∈ A.txs, Bytes b := by rw [hAt]; simp
            have hAn : A.txs.length ≤ 31 := by rw [hAt]; simp
            rcases ckL_cases (k := k) hL hsm (by omega) (by omega) keep hA with eR | ⟨La, X, S2, L2, eR, hLa, hpX, hlX, hLc, hor⟩ | ⟨Sa, X, eR, hpX, hlX, hLc⟩
          case' pos =>
            have hkb : decide ((o.k : Int) = 1) = false := decide_eq_false (by omega)
            obtain ⟨A, hA⟩ : ∃ A : Lg, { L with txs := L.txs ++ [b], used := L.used + needN b.length } = A := ⟨_, rfl⟩
            have hAs : A.snap = L.snap := by rw [← hA]
            have hAt : A.txs = L.txs ++ [b] := by rw [← hA]
            have hAb : Bytes A.snap := by rw [hAs]; exact hLb
            have hAtb : ∀ b ∈ A.txs, Bytes b := by
              rw [hAt]
              intro z hz
              rcases List.mem_append.1 hz with h | h
              · exact hLtb z h
              · rw [List.mem_singleton.1 h]; exact hsm.bytes
            have hAn : A.txs.length ≤ 31 := by rw [hAt]; simp; omega
            rcases appL_cases (k := k) hL hsm (by omega) keep hA with eR | ⟨La, X, S2, L2, eR, hLa, hpX, hlX, hLc, hor⟩ | ⟨X, eR, hpX, hlX, hLc⟩
          ·
            skip
            refine J.seq ?_
            refine J.region ?_
            refine JL.step (y_assign rfl) rfl rfl rfl ?_
            refine JL.nil ?_
            refine JE.then_normal ?_
            refine J.seq ?_
            refine J.seq ?_
            refine J.region ?_
            refine JL.step (y_loadN hT rfl rfl rfl (by (first | exact RdN.rowAll (by (repeat (first | exact Pick.head | apply Pick.tail | apply Pick.app))) | exact RdN.own (by (repeat (first | exact Pick.head | apply Pick.tail | apply Pick.app))))) (by (first | rfl | assumption | (simp; done) | omega))) rfl rfl rfl ?_
            refine JL.loud rfl (l_callF e33 rfl rfl (kind12_spec E o _) ?_)
            rintro _ _ ⟨rfl, rfl⟩
            refine JL.step (y_eql rfl rfl) rfl rfl rfl ?_
            refine JL.nil ?_
            refine JE.then_normal ?_
            refine J.cond_f rfl (by (first | rfl | assumption | (simp; done) | (simp; omega))) ?_
            refine J.region ?_
            refine JL.step (y_move rfl) rfl rfl rfl ?_
            refine JL.step (y_loadN hT rfl rfl rfl (by (first | exact RdN.rowAll (by (repeat (first | exact Pick.head | apply Pick.tail | apply Pick.app))) | exact RdN.own (by (repeat (first | exact Pick.head | apply Pick.tail | apply Pick.app))))) (by (first | rfl | assumption | (simp; done) | omega))) rfl rfl rfl ?_
            refine JL.loud rfl (l_callF e32 rfl rfl (cbytes _) ?_)
            rintro _ _ ⟨rfl, rfl⟩
            refine JL.loud rfl (l_callF e19 rfl rfl (Fc.on (Split.cons (by (repeat (first | exact Pick.head | apply Pick.tail | apply Pick.app))) (Split.cons (by (repeat (first | exact Pick.head | apply Pick.tail | apply Pick.app))) (Split.cons (by (repeat (first | exact Pick.head | apply Pick.tail | apply Pick.app))) Split.nil))) (append_arm2 E lg st d _ hL k b bp bc b.length rfl hsm (by omega) eR (hbin.kept (by (repeat (first | exact Pick.head | apply Pick.tail | apply Pick.app)))))) ?_)
            rintro _ _ ⟨rfl, rfl⟩
            refine JL.step (y_assign rfl) rfl rfl rfl ?_
            refine JL.nil ?_
            refine JE.then_normal ?_
            refine J.seq ?_
            refine J.seq ?_
            refine J.region ?_
            refine JL.step (y_move rfl) rfl rfl rfl (JL.step (y_neq rfl rfl) rfl rfl rfl (JL.step (y_move rfl) rfl rfl rfl ?_))
            all_goals (first | (refine JL.gsplit_dec rfl rfl rfl (fun h => ?_) (fun h => ?_) <;> try (first | (exfalso; omega) | exact absurd rfl h)) | (refine JL.gsplit rfl rfl rfl (fun h => ?_) (fun h => ?_) <;> try (first | cases h | (exfalso; simp at h; done))) | skip)
            all_goals (first | refine JL.gskip rfl rfl rfl rfl rfl rfl ?_ | refine JL.gskipU rfl rfl rfl rfl rfl ?_ | refine JL.gstep rfl rfl rfl (y_move rfl) rfl rfl ?_)
            all_goals (first | refine JL.gskip rfl rfl rfl rfl rfl rfl ?_ | refine JL.gskipU rfl rfl rfl rfl rfl ?_ | refine JL.gstep rfl rfl rfl (y_neq rfl rfl) rfl rfl ?_)
            all_goals (refine JL.step (y_pick rfl rfl rfl) rfl rfl rfl ?_)
            all_goals refine JL.nil ?_
            all_goals refine JE.then_normal ?_
            all_goals
              refine J.cond_t rfl (by (first | rfl | assumption | (simp; done) | (simp; omega))) ?_
              refine J.seq ?_
              refine J.draw _ _ [(0, .q), (1, .q), (2, .q), (3, .q), (4, .q), (5, .q), (6, .q), (7, .q), (9, .q), (8, .l), (10, .e), (11, .q), (12, .q)] mixed (by kernel_rfl) (Split.cons (Pick.head) (Split.nil)) ?_
              refine JM.quiet rfl rfl rfl rfl (fun m => y_move rfl) ?_
              refine JM.quiet rfl rfl rfl rfl (fun m => y_eql rfl rfl) ?_
              refine JM.quiet rfl rfl rfl rfl (fun m => y_move rfl) ?_
              all_goals (first | refine JM.gskip rfl rfl rfl rfl rfl rfl rfl ?_ | refine JM.gskipU rfl rfl rfl rfl rfl rfl ?_ | refine JM.gquiet rfl rfl rfl rfl rfl rfl (fun m => y_move rfl) ?_)
              all_goals (first | refine JM.gskip rfl rfl rfl rfl rfl rfl rfl ?_ | refine JM.gskipU rfl rfl rfl rfl rfl rfl ?_ | refine JM.gquiet rfl rfl rfl rfl rfl rfl (fun m => y_eql rfl rfl) ?_)
              all_goals refine JM.quiet rfl rfl rfl rfl (fun m => y_pick rfl rfl rfl) ?_
              all_goals refine JM.quiet rfl rfl rfl rfl (fun m => y_move rfl) ?_
              all_goals (first | refine JM.gskip rfl rfl rfl rfl rfl rfl rfl ?_ | refine JM.gskipU rfl rfl rfl rfl rfl rfl ?_ | refine JM.gquiet rfl rfl rfl rfl rfl rfl (fun m => y_move rfl) ?_)
              all_goals (first | refine JM.gskip rfl rfl rfl rfl rfl rfl rfl ?_ | refine JM.gskipU rfl rfl rfl rfl rfl rfl ?_ | refine JM.gquiet rfl rfl rfl rfl rfl rfl (fun m => y_loadN hT rfl rfl rfl (by (first | exact RdN.rowAll (Pick.app m (by (repeat (first | exact Pick.head | apply Pick.tail | apply Pick.app)))) | exact RdN.own (Pick.app m (by (repeat (first | exact Pick.head | apply Pick.tail | apply Pick.app)))))) (by (first | rfl | assumption | (simp; done) | omega))) ?_)
              refine JM.gloud rfl rfl rfl rfl (fun fr => l_callF e39 rfl rfl (of_spec E lg st L _) ?_)
              rintro _ _ ⟨cs2, K2, rfl, hB2, rfl⟩
              refine ⟨[_, _], (by (repeat (first | exact Split.nil | exact Split.all | refine Split.cons Pick.head ?_))), ?_⟩
              refine JM.gearly rfl rfl rfl rfl rfl rfl (fun fr => y_callF e40 rfl (same_spec E K2 K1 cs2 _ L.snap L.snap L.txs L.txs _ _ _ hB2 hB1 (by (repeat (first | exact Pick.head | apply Pick.tail | apply Pick.app))) (by (repeat (first | exact Pick.head | apply Pick.tail | apply Pick.app))) hLb hLb hLtb hLtb (by omega) true (by simp))) ?_
              all_goals refine JM.quiet rfl rfl rfl rfl (fun m => y_pick rfl rfl rfl) ?_
              all_goals refine JM.quiet rfl rfl rfl rfl (fun m => y_assign rfl) ?_
              all_goals refine JM.nil ?_
              all_goals refine JE.then_normal ?_
              all_goals
                refine J.ret ?_
                refine JE.then_ret ?_
                refine JE.ret1 (.inl rfl) rfl rfl (by (first | exact RV.tmp rfl | exact RV.cell1 hT rfl rfl rfl (by (exact Rd1.row (by (repeat (first | exact Pick.head | apply Pick.tail | apply Pick.app))) (by rfl))) | exact RV.cellN hT rfl rfl rfl (by (first | exact RdN.rowAll (by (repeat (first | exact Pick.head | apply Pick.tail | apply Pick.app))) | exact RdN.own (by (repeat (first | exact Pick.head | apply Pick.tail | apply Pick.app))))) (by (first | rfl | assumption | (simp; done) | omega)))) ?_
                exact ⟨rfl, fun w q => q.sup (by (repeat (first | exact Sup.refl | apply Sup.cons (by (repeat (first | exact Pick.head | apply Pick.tail | apply Pick.app))) | apply Sup.app | apply Sup.skip | apply Sup.skips)))⟩
          ·
            have hf : L2.txs.length ≤ 31 := by rcases hor with rfl | rfl <;> omega
            have h64 : 64 ≤ (X.crash keep).safe.length := by rw [crash_len]; omega
            refine J.seq ?_
            refine J.region ?_
            refine JL.step (y_assign rfl) rfl rfl rfl ?_
            refine JL.nil ?_
            refine JE.then_normal ?_
            refine J.seq ?_
            refine J.seq ?_
            refine J.region ?_
            refine JL.step (y_loadN hT rfl rfl rfl (by (first | exact RdN.rowAll (by (repeat (first | exact Pick.head | apply Pick.tail | apply Pick.app))) | exact RdN.own (by (repeat (first | exact Pick.head | apply Pick.tail | apply Pick.app))))) (by (first | rfl | assumption | (simp; done) | omega))) rfl rfl rfl ?_
            refine JL.loud rfl (l_callF e33 rfl rfl (kind12_spec E o _) ?_)
            rintro _ _ ⟨rfl, rfl⟩
            refine JL.step (y_eql rfl rfl) rfl rfl rfl ?_
            refine JL.nil ?_
            refine JE.then_normal ?_
            refine J.cond_f rfl (by (first | rfl | assumption | (simp; done) | (simp; omega))) ?_
            refine J.region ?_
            refine JL.step (y_move rfl) rfl rfl rfl ?_
            refine JL.step (y_loadN hT rfl rfl rfl (by (first | exact RdN.rowAll (by (repeat (first | exact Pick.head | apply Pick.tail | apply Pick.app))) | exact RdN.own (by (repeat (first | exact Pick.head | apply Pick.tail | apply Pick.app))))) (by (first | rfl | assumption | (simp; done) | omega))) rfl rfl rfl ?_
            refine JL.loud rfl (l_callF e32 rfl rfl (cbytes _) ?_)
            rintro _ _ ⟨rfl, rfl⟩
            refine JL.loud rfl (l_callF e19 rfl rfl (Fc.on (Split.cons (by (repeat (first | exact Pick.head | apply Pick.tail | apply Pick.app))) (Split.cons (by (repeat (first | exact Pick.head | apply Pick.tail | apply Pick.app))) (Split.cons (by (repeat (first | exact Pick.head | apply Pick.tail | apply Pick.app))) Split.nil))) (append_arm2 E lg st d _ hL k b bp bc b.length rfl hsm (by omega) eR (hbin.kept (by (repeat (first | exact Pick.head | apply Pick.tail | apply Pick.app)))))) ?_)
            rintro _ _ ⟨rfl, rfl⟩
            refine JL.step (y_assign rfl) rfl rfl rfl ?_
            refine JL.nil ?_
            refine JE.then_normal ?_
            refine J.seq ?_
            refine J.seq ?_
            refine J.region ?_
            refine JL.step (y_move rfl) rfl rfl rfl (JL.step (y_neq rfl rfl) rfl rfl rfl (JL.step (y_move rfl) rfl rfl rfl ?_))
            all_goals (first | (refine JL.gsplit_dec rfl rfl rfl (fun h => ?_) (fun h => ?_) <;> try (first | (exfalso; omega) | exact absurd rfl h)) | (refine JL.gsplit rfl rfl rfl (fun h => ?_) (fun h => ?_) <;> try (first | cases h | (exfalso; simp at h; done))) | skip)
            all_goals (first | refine JL.gskip rfl rfl rfl rfl rfl rfl ?_ | refine JL.gskipU rfl rfl rfl rfl rfl ?_ | refine JL.gstep rfl rfl rfl (y_move rfl) rfl rfl ?_)
            all_goals (first | refine JL.gskip rfl rfl rfl rfl rfl rfl ?_ | refine JL.gskipU rfl rfl rfl rfl rfl ?_ | refine JL.gstep rfl rfl rfl (y_neq rfl rfl) rfl rfl ?_)
            all_goals (refine JL.step (y_pick rfl rfl rfl) rfl rfl rfl ?_)
            all_goals refine JL.nil ?_
            all_goals refine JE.then_normal ?_
            all_goals
              refine J.cond_f rfl (by (first | rfl | assumption | (simp; done) | (simp; omega))) ?_
              refine J.skip ?_
            all_goals refine JE.then_normal ?_
            all_goals
              refine J.seq ?_
              refine J.draw _ _ [(0, .q), (1, .q), (3, .q), (4, .q), (6, .q), (2, .n), (5, .l), (7, .q), (8, .n), (9, .l), (10, .q), (11, .n), (12, .l)] mixed (by kernel_rfl) (Split.nil) ?_
              refine JM.quiet rfl rfl rfl rfl (fun m => y_fieldAddr hT rfl rfl rfl rfl rfl rfl) ?_
              refine JM.quiet rfl rfl rfl rfl (fun m => y_load1 hT rfl rfl rfl (by (exact Rd1.row (Pick.app m (by (repeat (first | exact Pick.head | apply Pick.tail | apply Pick.app)))) (by rfl)))) ?_
              refine JM.quiet rfl rfl rfl rfl (fun m => y_fieldAddr hT rfl rfl rfl rfl rfl rfl) ?_
              refine JM.quiet rfl rfl rfl rfl (fun m => y_load1 hT rfl rfl rfl (by (exact Rd1.row (Pick.app m (by (repeat (first | exact Pick.head | apply Pick.tail | apply Pick.app)))) (by rfl)))) ?_
              refine JM.quiet rfl rfl rfl rfl (fun m => y_loadN hT rfl rfl rfl (by (first | exact RdN.rowAll (Pick.app m (by (repeat (first | exact Pick.head | apply Pick.tail | apply Pick.app)))) | exact RdN.own (Pick.app m (by (repeat (first | exact Pick.head | apply Pick.tail | apply Pick.app)))))) (by (first | rfl | assumption | (simp; done) | omega))) ?_
              refine JM.lay rfl rfl rfl rfl (fun a hf => lays_buildSlice0 hT rfl rfl rfl) (fun b11 => ?_)
              refine JM.loud rfl rfl (fun fr => LS.pre (fun w s => Sat.own_zero (size := 1) (s.pick (by (repeat (first | exact Pick.head | apply Pick.tail | apply Pick.app))))) (l_appendIn (nn := 0) (m := L.txs.length) hT rfl rfl rfl rfl rfl rfl rfl rfl Pick.head (hq1.kept (by (repeat (first | exact Pick.head | apply Pick.tail | apply Pick.app)))) (by rw [show i36.size = 1 from rfl, hv1, Nat.mul_one]) hv1o (by rw [show i36.bytes = 24 from rfl]; omega) (by omega) rfl (fun a1 a1c ha1 => ⟨[_], (by (repeat (first | exact Split.nil | exact Split.all | refine Split.cons Pick.head ?_))), ?_⟩)))
              rw [Nat.zero_add L.txs.length, List.nil_append v1]
              refine JM.quiet rfl rfl rfl rfl (fun m => y_callF e32 rfl (cbytes _)) ?_
              refine JM.lay rfl rfl rfl rfl (fun a hf => lays_buildSlice hT rfl rfl rfl rfl hf rfl rfl rfl (by (first | exact fill_one rfl (by first | assumption | rfl | (simp; done)) | rfl | simp))) (fun b12 => ?_)
              refine JM.loud rfl rfl (fun fr => l_appendIn (nn := L.txs.length) (m := 1) hT rfl rfl rfl rfl rfl rfl rfl rfl (by (repeat (first | exact Pick.head | apply Pick.tail | apply Pick.app))) (InL.ofRow (cs := [.slice bp b.length bc]) (by (repeat (first | exact Pick.head | apply Pick.tail | apply Pick.app))) (by decide)) (by rfl) (ones_of rfl) (by rw [show i36.bytes = 24 from rfl]; omega) (by omega) rfl (fun a2 a2c ha2 => ⟨[_, _], (by (repeat (first | exact Split.nil | exact Split.all | refine Split.cons Pick.head ?_))), ?_⟩))
              refine JM.quiet rfl rfl rfl rfl (fun m => y_build (cs := [_, _]) hT rfl rfl rfl rfl rfl rfl ⟨⟨(by (first | rfl | assumption | (simp; done) | omega)), Nat.le_of_ble_eq_true rfl⟩, ⟨⟨(by (first | rfl | assumption | (simp; done) | omega)), Nat.le_of_ble_eq_true rfl⟩, trivial⟩⟩ rfl) ?_
              refine JM.lay rfl rfl rfl rfl (fun a hf => lays_alloc hT rfl rfl (by (first | rfl | simp))) (fun b15 => ?_)
              refine JM.loud rfl rfl (fun fr => l_storeAll hT rfl rfl rfl (by (first | rfl | assumption | (simp; done) | omega)) (by (first | assumption | exact ones_of rfl | exact encW_one _ | exact encB_one _ | (intro u hu; simp at hu; rcases hu with rfl | rfl <;> rfl) | (intro u hu; simp at hu; subst hu; rfl) | simp)) (by (repeat (first | exact Pick.head | apply Pick.tail | apply Pick.app))) (by (first | rfl | assumption | (simp; done) | omega)) (⟨[_, _, _], (by (repeat (first | exact Split.nil | exact Split.all | refine Split.cons Pick.head ?_))), ?_⟩))
              refine JM.nil ?_
              refine JE.then_normal ?_
              refine J.seq ?_
              refine J.seq ?_
              refine J.fact (p := OwnAt a2 (L.txs.length + 1) a2c (v1 ++ [.slice bp b.length bc])) (fun w s => Sat.own_at (s.pick (by (repeat (first | exact Pick.head | apply Pick.tail | apply Pick.app))))) fun oa2 => ?_
              obtain ⟨KA, hKA⟩ : ∃ K, own 36 1 (.slice a2 (L.txs.length + 1) a2c) (L.txs.length + 1) (v1 ++ [.slice bp b.length bc]) = K := ⟨_, rfl⟩
              have oin := oa2.inl (l := [own 36 1 (.slice a2 (L.txs.length + 1) a2c) (L.txs.length + 1) (v1 ++ [.slice bp b.length bc])]) Pick.head
              obtain ⟨K, hK⟩ : ∃ K, stars [stars [KA, K1], K0] = K := ⟨_, rfl⟩
              refine J.lists (fun w q => show Sat E (stars (logm lg st La :: K :: row st 90 (scells S d) :: disk d X :: row b15 74 [.slice p1 L.snap.length c1, .slice a2 (L.txs.length + 1) a2c] :: row b4 61 (opE o) :: row b5 72 [.int .i64 at_, .slice kp keep.length kc] :: row b13 74 [.slice p1 L.snap.length c1, .slice q1 L.txs.length d1] :: [])) w from by rw [← hK, ← hKA]; exact (Sat.fold (m := [stars [_, K1], K0]) (Sat.fold (m := [_, K1]) (q.sup (p := own 36 1 (.slice a2 (L.txs.length + 1) a2c) (L.txs.length + 1) (v1 ++ [.slice bp b.length bc]) :: K1 :: K0 :: logm lg st La :: row st 90 (scells S d) :: disk d X :: row b15 74 [.slice p1 L.snap.length c1, .slice a2 (L.txs.length + 1) a2c] :: row b4 61 (opE o) :: row b5 72 [.int .i64 at_, .slice kp keep.length kc] :: row b13 74 [.slice p1 L.snap.length c1, .slice q1 L.txs.length d1] :: []) (by (repeat (first | exact Sup.refl | apply Sup.cons (by (repeat (first | exact Pick.head | apply Pick.tail | apply Pick.app))) | apply Sup.app | apply Sup.skip | apply Sup.skips)))))).pick (Pick.tail Pick.head)) ?_
              have hinkK : InL [K] kp keep.length kc (keep.map Value.bool) := by rw [← hK]; exact hink.keepR
              have hbinK : InL [K] bp b.length bc (ints .u8 b) := by rw [← hK]; exact hbin.keepR
              have hBK : StB K [.slice p1 L.snap.length c1, .slice q1 L.txs.length d1] L.snap L.txs := by rw [← hK]; exact hB1.keepR.keepL
              have hBN : StB K [.slice p1 L.snap.length c1, .slice a2 (L.txs.length + 1) a2c] L.snap (L.txs ++ [b]) := by
                rw [← hK, ← hKA]
                exact ⟨p1, c1, a2, a2c, v1 ++ [.slice bp b.length bc], by simp, hs1.keepR.keepL, by rw [List.length_append]; exact oin.keepL.keepL, hx1.keepR.keepL.put hbin.keepR⟩
              refine J.region ?_
              refine JL.step (y_loadN hT rfl rfl rfl (by (first | exact RdN.rowAll (by (repeat (first | exact Pick.head | apply Pick.tail | apply Pick.app))) | exact RdN.own (by (repeat (first | exact Pick.head | apply Pick.tail | apply Pick.app))))) (by (first | rfl | assumption | (simp; done) | omega))) rfl rfl rfl ?_
              refine JL.loud rfl (l_callF e33 rfl rfl (kind12_spec E o _) ?_)
              rintro _ _ ⟨rfl, rfl⟩
              refine JL.step (y_eql rfl rfl) rfl rfl rfl ?_
              refine JL.nil ?_
              refine JE.then_normal ?_
              refine J.cond_f rfl (by (first | rfl | assumption | (simp; done) | (simp; omega))) ?_
              refine J.skip ?_
              refine JE.then_normal ?_
              refine J.seq ?_
              refine J.seq ?_
              have hBA : StB K [.slice p1 L.snap.length c1, .slice a2 (L.txs.length + 1) a2c] A.snap A.txs := by rw [hAs, hAt]; exact hBN
              first
                | (have zz := hLa
                   refine J.draw _ _ [(0, .q), (1, .q), (2, .q), (3, .q), (5, .q), (4, .q), (6, .q), (7, .q), (8, .q)] mixed (by kernel_rfl) (Split.nil) ?_)
                | refine J.draw _ _ [(0, .q), (1, .q), (2, .q), (3, .q), (5, .q), (4, .l), (6, .q), (7, .q), (8, .q)] mixed (by kernel_rfl) (Split.nil) ?_
              refine JM.quiet rfl rfl rfl rfl (fun m => y_move rfl) ?_
              refine JM.quiet rfl rfl rfl rfl (fun m => y_eql rfl rfl) ?_
              refine JM.quiet rfl rfl rfl rfl (fun m => y_move rfl) ?_
              all_goals (first | refine JM.gskip rfl rfl rfl rfl rfl rfl rfl ?_ | refine JM.gskipU rfl rfl rfl rfl rfl rfl ?_ | refine JM.gquiet rfl rfl rfl rfl rfl rfl (fun m => y_move rfl) ?_)
              all_goals (first | refine JM.gskip rfl rfl rfl rfl rfl rfl rfl ?_ | refine JM.gskipU rfl rfl rfl rfl rfl rfl ?_ | refine JM.gquiet rfl rfl rfl rfl rfl rfl (fun m => y_loadN hT rfl rfl rfl (by (first | exact RdN.rowAll (Pick.app m (by (repeat (first | exact Pick.head | apply Pick.tail | apply Pick.app)))) | exact RdN.own (Pick.app m (by (repeat (first | exact Pick.head | apply Pick.tail | apply Pick.app)))))) (by (first | rfl | assumption | (simp; done) | omega))) ?_)
              first | refine JM.gskip rfl rfl rfl rfl rfl rfl rfl ?_ | refine JM.gskipU rfl rfl rfl rfl rfl rfl ?_ | (refine JM.gloud rfl rfl rfl rfl (fun fr => l_callF e39 rfl rfl (of_spec E lg st A _) ?_); rintro _ _ ⟨cs3, K3, rfl, hB3, rfl⟩; refine ⟨[], (by (repeat (first | exact Split.nil | exact Split.all | refine Split.cons Pick.head ?_))), ?_⟩)
              all_goals (first | refine JM.gskip rfl rfl rfl rfl rfl rfl rfl ?_ | refine JM.gskipU rfl rfl rfl rfl rfl rfl ?_ | refine JM.gquiet rfl rfl rfl rfl rfl rfl (fun m => y_callF e40 rfl (same_spec E K3 K cs3 _ A.snap A.snap A.txs A.txs _ _ _ hB3 hBA (Pick.app m (by (repeat (first | exact Pick.head | apply Pick.tail | apply Pick.app)))) (Pick.app m (by (repeat (first | exact Pick.head | apply Pick.tail | apply Pick.app)))) hAb hAb hAtb hAtb (by omega) true (by simp))) ?_)
              all_goals (first | refine JM.gskip rfl rfl rfl rfl rfl rfl rfl ?_ | refine JM.gskipU rfl rfl rfl rfl rfl rfl ?_ | refine JM.gquiet rfl rfl rfl rfl rfl rfl (fun m => y_not rfl) ?_)
              all_goals refine JM.quiet rfl rfl rfl rfl (fun m => y_pick rfl rfl rfl) ?_
              all_goals refine JM.nil ?_
              all_goals refine JE.then_normal ?_
              all_goals
                refine J.cond_f rfl (by (first | rfl | assumption | (simp; done) | (simp; omega))) ?_
                refine J.skip ?_
              all_goals refine JE.then_normal ?_
              all_goals
                refine J.seq ?_
                refine J.seq ?_
                refine J.region ?_
                refine JL.step (y_move rfl) rfl rfl rfl ?_
                refine JL.loud rfl (l_buildSlice0 hT rfl rfl rfl rfl (fun b16 => ?_))
                refine JL.step (y_fieldAddr hT rfl rfl rfl rfl rfl rfl) rfl rfl rfl ?_
                refine JL.step (y_load1 hT rfl rfl rfl (by (exact Rd1.row (by (repeat (first | exact Pick.head | apply Pick.tail | apply Pick.app))) (by rfl)))) rfl rfl rfl ?_
                refine JL.loud rfl (l_appendIn hT rfl rfl rfl rfl rfl rfl rfl rfl (by (repeat (first | exact Pick.head | apply Pick.tail | apply Pick.app))) (hinkK.kept (by (repeat (first | exact Pick.head | apply Pick.tail | apply Pick.app)))) (by rw [show i4.size = 1 from rfl]; simp) (by intro u hu; simp only [List.mem_map] at hu; obtain ⟨z, _, rfl⟩ := hu; rfl) (by rw [show i4.bytes = 1 from rfl]; omega) (by omega) rfl (fun ka kc' hc' => ?_))
                rw [Nat.zero_add keep.length, List.nil_append (keep.map Value.bool)]
                refine JL.loud rfl (l_callF e29 rfl rfl (Fc.fact (p := OwnAt ka keep.length kc' (keep.map Value.bool)) (fun w s => Sat.own_at (s.pick (by (repeat (first | exact Pick.head | apply Pick.tail | apply Pick.app))))) fun ok => Fc.on (Split.cons (by (repeat (first | exact Pick.head | apply Pick.tail | apply Pick.app))) Split.nil) (crash_spec E d X _ _ keep _ (ok.inl (by (repeat (first | exact Pick.head | apply Pick.tail | apply Pick.app)))) (by omega))) ?_)
                rintro _ _ ⟨rfl, rfl⟩
                refine JL.step (y_neq rfl rfl) rfl rfl rfl ?_
                refine JL.nil ?_
                refine JE.then_normal ?_
                refine J.cond_f rfl (by (first | rfl | assumption | (simp; done) | (simp; omega))) ?_
                refine J.skip ?_
                refine JE.then_normal ?_
                refine J.seq ?_
                refine J.seq ?_
                subst hLa
                refine J.region ?_
                refine JL.step (y_move rfl) rfl rfl rfl (JL.step (y_eql rfl rfl) rfl rfl rfl (JL.step (y_move rfl) rfl rfl rfl ?_))
                all_goals (first | (refine JL.gsplit_dec rfl rfl rfl (fun h => ?_) (fun h => ?_) <;> try (first | (exfalso; omega) | exact absurd rfl h)) | (refine JL.gsplit rfl rfl rfl (fun h => ?_) (fun h => ?_) <;> try (first | cases h | (exfalso; simp at h; done))) | skip)
                all_goals (first | refine JL.gskip rfl rfl rfl rfl rfl rfl ?_ | refine JL.gskipU rfl rfl rfl rfl rfl ?_ | refine JL.gstep rfl rfl rfl (y_move rfl) rfl rfl ?_)
                all_goals (first | refine JL.gskip rfl rfl rfl rfl rfl rfl ?_ | refine JL.gskipU rfl rfl rfl rfl rfl ?_ | (refine JL.gloud rfl rfl rfl (l_callF e19 rfl rfl (Fc.on (Split.cons (by (repeat (first | exact Pick.head | apply Pick.tail | apply Pick.app))) (Split.cons (by (repeat (first | exact Pick.head | apply Pick.tail | apply Pick.app))) (Split.cons (by (repeat (first | exact Pick.head | apply Pick.tail | apply Pick.app))) Split.nil))) (append_broken E lg st d _ hhash (by omega) (Nat.zero_le _) (by omega))) ?_); rintro _ _ ⟨rfl, rfl⟩))
                all_goals (first | refine JL.gskip rfl rfl rfl rfl rfl rfl ?_ | refine JL.gskipU rfl rfl rfl rfl rfl ?_ | refine JL.gstep rfl rfl rfl (y_neq rfl rfl) rfl rfl ?_)
                all_goals (first | refine JL.gskip rfl rfl rfl rfl rfl rfl ?_ | refine JL.gskipU rfl rfl rfl rfl rfl ?_ | refine JL.gstep rfl rfl rfl (y_move rfl) rfl rfl ?_)
                all_goals (first | (refine JL.gsplit_dec rfl rfl rfl (fun h => ?_) (fun h => ?_) <;> try (first | (exfalso; omega) | exact absurd rfl h)) | (refine JL.gsplit rfl rfl rfl (fun h => ?_) (fun h => ?_) <;> try (first | cases h | (exfalso; simp at h; done))) | skip)
                all_goals (first | refine JL.gskip rfl rfl rfl rfl rfl rfl ?_ | refine JL.gskipU rfl rfl rfl rfl rfl ?_ | refine JL.gstep rfl rfl rfl (y_move rfl) rfl rfl ?_)
                all_goals (first | refine JL.gskip rfl rfl rfl rfl rfl rfl ?_ | refine JL.gskipU rfl rfl rfl rfl rfl ?_ | (refine JL.gloud rfl rfl rfl (l_callF e18 rfl rfl (Fc.on (Split.cons (by (repeat (first | exact Pick.head | apply Pick.tail | apply Pick.app))) (Split.cons (by (repeat (first | exact Pick.head | apply Pick.tail | apply Pick.app))) (Split.cons (by (repeat (first | exact Pick.head | apply Pick.tail | apply Pick.app))) Split.nil))) (check_broken E lg st d _ hhash (by omega) hplace (Nat.zero_le _))) ?_); rintro _ _ ⟨rfl, rfl⟩))
                all_goals (first | refine JL.gskip rfl rfl rfl rfl rfl rfl ?_ | refine JL.gskipU rfl rfl rfl rfl rfl ?_ | refine JL.gstep rfl rfl rfl (y_neq rfl rfl) rfl rfl ?_)
                all_goals (first | refine JL.gskip rfl rfl rfl rfl rfl rfl ?_ | refine JL.gskipU rfl rfl rfl rfl rfl ?_ | refine JL.gstep rfl rfl rfl (y_pick rfl rfl rfl) rfl rfl ?_)
                all_goals (refine JL.step (y_pick rfl rfl rfl) rfl rfl rfl ?_)
                all_goals refine JL.nil ?_
                all_goals refine JE.then_normal ?_
                all_goals
                  refine J.cond_f rfl (by (first | rfl | assumption | (simp; done) | (simp; omega))) ?_
                  refine J.skip ?_
                all_goals refine JE.then_normal ?_
                all_goals
                  refine J.seq ?_
                  refine J.region ?_
                  refine JL.step (y_move rfl) rfl rfl rfl ?_
                  refine JL.loud rfl (l_callF e30 rfl rfl (Fc.on (Split.cons (by (repeat (first | exact Pick.head | apply Pick.tail | apply Pick.app))) Split.nil) (again_spec E d _ hLc h64)) ?_)
                  rintro _ _ ⟨lg2, st2, rfl, rfl⟩
                  refine JL.step (y_move rfl) rfl rfl rfl (JL.step (y_extract rfl rfl) rfl rfl rfl (JL.step (y_extract rfl rfl) rfl rfl rfl (JL.step (y_assign rfl) rfl rfl rfl (JL.step (y_assign rfl) rfl rfl rfl ?_))))
                  refine JL.nil ?_
                  refine JE.then_normal ?_
                  refine J.seq ?_
                  refine J.seq ?_
                  refine J.region ?_
                  refine JL.step (y_move rfl) rfl rfl rfl (JL.step (y_not rfl) rfl rfl rfl ?_)
                  refine JL.nil ?_
                  refine JE.then_normal ?_
                  refine J.cond_f rfl (by (first | rfl | assumption | (simp; done) | (simp; omega))) ?_
                  refine J.skip ?_
                  refine JE.then_normal ?_
                  refine J.seq ?_
                  refine J.region ?_
                  refine JL.step (y_move rfl) rfl rfl rfl ?_
                  refine JL.loud rfl (l_callF e39 rfl rfl (Fc.on (Split.cons (by (repeat (first | exact Pick.head | apply Pick.tail | apply Pick.app))) Split.nil) (of_spec E lg2 st2 _ _)) ?_)
                  rintro _ _ ⟨cs2, K2, rfl, ⟨p2, c2, q2, d2, v2, rfl, hs2, hq2, hx2⟩, rfl⟩
                  refine JL.loud rfl (l_alloc hT rfl rfl (by (first | rfl | simp)) rfl (fun b18 => ?_))
                  refine JL.loud rfl (l_storeAll hT rfl rfl rfl (by (first | rfl | assumption | (simp; done) | omega)) (by (first | assumption | exact ones_of rfl | exact encW_one _ | exact encB_one _ | (intro u hu; simp at hu; rcases hu with rfl | rfl <;> rfl) | (intro u hu; simp at hu; subst hu; rfl) | simp)) (by (repeat (first | exact Pick.head | apply Pick.tail | apply Pick.app))) (by (first | rfl | assumption | (simp; done) | omega)) ?_)
                  refine JL.nil ?_
                  refine JE.then_normal ?_
                  refine J.seq ?_
                  refine J.seq ?_
                  have hB2 : StB K2 _ L2.snap L2.txs := ⟨p2, c2, q2, d2, v2, rfl, hs2, hq2, hx2⟩
                  obtain ⟨be, hbe⟩ : ∃ be, decide (L2.snap = L.snap ∧ L2.txs = L.txs) = be := ⟨_, rfl⟩
                  have hbt : be = false → decide (L2.snap = A.snap ∧ L2.txs = A.txs) = true := fun h => by
                    rcases hor with rfl | rfl
                    · rw [h] at hbe; simp at hbe
                    · simp
                  have hcb := hLc.small.bytes
                  have hctb : ∀ b ∈ L2.txs, Bytes b := fun b hb => (hLc.smalls b hb).bytes
                  cases be
                  all_goals
                    refine J.region ?_
                    refine JL.step (y_move rfl) rfl rfl rfl (JL.step (y_eql rfl rfl) rfl rfl rfl (JL.step (y_move rfl) rfl rfl rfl ?_))
                    all_goals (first | (refine JL.gsplit_dec rfl rfl rfl (fun h => ?_) (fun h => ?_) <;> try (first | (exfalso; omega) | exact absurd rfl h)) | (refine JL.gsplit rfl rfl rfl (fun h => ?_) (fun h => ?_) <;> try (first | cases h | (exfalso; simp at h; done))) | skip)
                    all_goals (first | refine JL.gskip rfl rfl rfl rfl rfl rfl ?_ | refine JL.gskipU rfl rfl rfl rfl rfl ?_ | refine JL.gstep rfl rfl rfl (y_loadN hT rfl rfl rfl (by (first | exact RdN.rowAll (by (repeat (first | exact Pick.head | apply Pick.tail | apply Pick.app))) | exact RdN.own (by (repeat (first | exact Pick.head | apply Pick.tail | apply Pick.app))))) (by (first | rfl | assumption | (simp; done) | omega))) rfl rfl ?_)
                    all_goals (first | refine JL.gskip rfl rfl rfl rfl rfl rfl ?_ | refine JL.gskipU rfl rfl rfl rfl rfl ?_ | refine JL.gstep rfl rfl rfl (y_loadN hT rfl rfl rfl (by (first | exact RdN.rowAll (by (repeat (first | exact Pick.head | apply Pick.tail | apply Pick.app))) | exact RdN.own (by (repeat (first | exact Pick.head | apply Pick.tail | apply Pick.app))))) (by (first | rfl | assumption | (simp; done) | omega))) rfl rfl ?_)
                    all_goals (first | refine JL.gskip rfl rfl rfl rfl rfl rfl ?_ | refine JL.gskipU rfl rfl rfl rfl rfl ?_ | (refine JL.gloud rfl rfl rfl (l_callF e40 rfl rfl (same_spec E K2 K _ _ A.snap A.snap A.txs A.txs _ _ _ hB2 hBA (by (repeat (first | exact Pick.head | apply Pick.tail | apply Pick.app))) (by (repeat (first | exact Pick.head | apply Pick.tail | apply Pick.app))) hAb hAb hAtb hAtb (by omega) true (by simp)) ?_); rintro _ _ ⟨rfl, rfl⟩))
                    all_goals (first | refine JL.gskip rfl rfl rfl rfl rfl rfl ?_ | refine JL.gskipU rfl rfl rfl rfl rfl ?_ | refine JL.gstep rfl rfl rfl (y_not rfl) rfl rfl ?_)
                    all_goals (refine JL.step (y_pick rfl rfl rfl) rfl rfl rfl ?_)
                    all_goals (refine JL.step (y_move rfl) rfl rfl rfl ?_)
                    all_goals (first | (refine JL.gsplit_dec rfl rfl rfl (fun h => ?_) (fun h => ?_) <;> try (first | (exfalso; omega) | exact absurd rfl h)) | (refine JL.gsplit rfl rfl rfl (fun h => ?_) (fun h => ?_) <;> try (first | cases h | (exfalso; simp at h; done))) | skip)
                    all_goals (first | refine JL.gskip rfl rfl rfl rfl rfl rfl ?_ | refine JL.gskipU rfl rfl rfl rfl rfl ?_ | refine JL.gstep rfl rfl rfl (y_loadN hT rfl rfl rfl (by (first | exact RdN.rowAll (by (repeat (first | exact Pick.head | apply Pick.tail | apply Pick.app))) | exact RdN.own (by (repeat (first | exact Pick.head | apply Pick.tail | apply Pick.app))))) (by (first | rfl | assumption | (simp; done) | omega))) rfl rfl ?_)
                    all_goals (first | refine JL.gskip rfl rfl rfl rfl rfl rfl ?_ | refine JL.gskipU rfl rfl rfl rfl rfl ?_ | refine JL.gstep rfl rfl rfl (y_loadN hT rfl rfl rfl (by (first | exact RdN.rowAll (by (repeat (first | exact Pick.head | apply Pick.tail | apply Pick.app))) | exact RdN.own (by (repeat (first | exact Pick.head | apply Pick.tail | apply Pick.app))))) (by (first | rfl | assumption | (simp; done) | omega))) rfl rfl ?_)
                    all_goals (first | refine JL.gskip rfl rfl rfl rfl rfl rfl ?_ | refine JL.gskipU rfl rfl rfl rfl rfl ?_ | (refine JL.gloud rfl rfl rfl (l_callF e40 rfl rfl (same_spec E K2 K _ _ _ L.snap _ L.txs _ _ _ hB2 hBK (by (repeat (first | exact Pick.head | apply Pick.tail | apply Pick.app))) (by (repeat (first | exact Pick.head | apply Pick.tail | apply Pick.app))) hcb hLb hctb hLtb (by omega) _ hbe) ?_); rintro _ _ ⟨rfl, rfl⟩))
                    all_goals (first | refine JL.gskip rfl rfl rfl rfl rfl rfl ?_ | refine JL.gskipU rfl rfl rfl rfl rfl ?_ | refine JL.gstep rfl rfl rfl (y_not rfl) rfl rfl ?_)
                    all_goals (first | refine JL.gskip rfl rfl rfl rfl rfl rfl ?_ | refine JL.gskipU rfl rfl rfl rfl rfl ?_ | refine JL.gstep rfl rfl rfl (y_move rfl) rfl rfl ?_)
                    all_goals (first | (refine JL.gsplit_dec rfl rfl rfl (fun h => ?_) (fun h => ?_) <;> try (first | (exfalso; omega) | exact absurd rfl h)) | (refine JL.gsplit rfl rfl rfl (fun h => ?_) (fun h => ?_) <;> try (first | cases h | (exfalso; simp at h; done))) | skip)
                    all_goals (first | refine JL.gskip rfl rfl rfl rfl rfl rfl ?_ | refine JL.gskipU rfl rfl rfl rfl rfl ?_ | refine JL.gstep rfl rfl rfl (y_loadN hT rfl rfl rfl (by (first | exact RdN.rowAll (by (repeat (first | exact Pick.head | apply Pick.tail | apply Pick.app))) | exact RdN.own (by (repeat (first | exact Pick.head | apply Pick.tail | apply Pick.app))))) (by (first | rfl | assumption | (simp; done) | omega))) rfl rfl ?_)
                    all_goals (first | refine JL.gskip rfl rfl rfl rfl rfl rfl ?_ | refine JL.gskipU rfl rfl rfl rfl rfl ?_ | refine JL.gstep rfl rfl rfl (y_loadN hT rfl rfl rfl (by (first | exact RdN.rowAll (by (repeat (first | exact Pick.head | apply Pick.tail | apply Pick.app))) | exact RdN.own (by (repeat (first | exact Pick.head | apply Pick.tail | apply Pick.app))))) (by (first | rfl | assumption | (simp; done) | omega))) rfl rfl ?_)
                    all_goals (first | refine JL.gskip rfl rfl rfl rfl rfl rfl ?_ | refine JL.gskipU rfl rfl rfl rfl rfl ?_ | (refine JL.gloud rfl rfl rfl (l_callF e40 rfl rfl (same_spec E K2 K _ _ _ A.snap _ A.txs _ _ _ hB2 hBA (by (repeat (first | exact Pick.head | apply Pick.tail | apply Pick.app))) (by (repeat (first | exact Pick.head | apply Pick.tail | apply Pick.app))) hcb hAb hctb hAtb (by omega) true (hbt rfl)) ?_); rintro _ _ ⟨rfl, rfl⟩))
                    all_goals (first | refine JL.gskip rfl rfl rfl rfl rfl rfl ?_ | refine JL.gskipU rfl rfl rfl rfl rfl ?_ | refine JL.gstep rfl rfl rfl (y_not rfl) rfl rfl ?_)
                    all_goals (first | refine JL.gskip rfl rfl rfl rfl rfl rfl ?_ | refine JL.gskipU rfl rfl rfl rfl rfl ?_ | refine JL.gstep rfl rfl rfl (y_pick rfl rfl rfl) rfl rfl ?_)
                    all_goals (refine JL.step (y_pick rfl rfl rfl) rfl rfl rfl ?_)
                    all_goals refine JL.nil ?_
                  all_goals refine JE.then_normal ?_
                  all_goals
                    refine J.cond_f rfl (by (first | rfl | assumption | (simp; done) | (simp; omega))) ?_
                    refine J.skip ?_
                  all_goals refine JE.then_normal ?_
                  all_goals
                    refine J.seq ?_
                    refine J.region ?_
                    refine JL.step (y_move rfl) rfl rfl rfl ?_
                    refine JL.loud rfl (l_callF e30 rfl rfl (Fc.on (Split.cons (by (repeat (first | exact Pick.head | apply Pick.tail | apply Pick.app))) Split.nil) (again_spec E d _ hLc h64)) ?_)
                    rintro _ _ ⟨lg3, st3, rfl, rfl⟩
                    refine JL.step (y_move rfl) rfl rfl rfl (JL.step (y_extract rfl rfl) rfl rfl rfl (JL.step (y_extract rfl rfl) rfl rfl rfl (JL.step (y_assign rfl) rfl rfl rfl (JL.step (y_assign rfl) rfl rfl rfl ?_))))
                    refine JL.nil ?_
                    refine JE.then_normal ?_
                    refine J.seq ?_
                    refine J.seq ?_
                    refine J.draw _ _ [(0, .q), (1, .q), (2, .q), (3, .q), (5, .q), (4, .l), (6, .e), (7, .q), (8, .q)] mixed (by kernel_rfl) (Split.cons (Pick.head) (Split.nil)) ?_
                    refine JM.quiet rfl rfl rfl rfl (fun m => y_move rfl) ?_
                    refine JM.quiet rfl rfl rfl rfl (fun m => y_not rfl) ?_
                    refine JM.quiet rfl rfl rfl rfl (fun m => y_move rfl) ?_
                    all_goals (first | refine JM.gskip rfl rfl rfl rfl rfl rfl rfl ?_ | refine JM.gskipU rfl rfl rfl rfl rfl rfl ?_ | refine JM.gquiet rfl rfl rfl rfl rfl rfl (fun m => y_move rfl) ?_)
                    all_goals (first | refine JM.gskip rfl rfl rfl rfl rfl rfl rfl ?_ | refine JM.gskipU rfl rfl rfl rfl rfl rfl ?_ | refine JM.gquiet rfl rfl rfl rfl rfl rfl (fun m => y_loadN hT rfl rfl rfl (by (first | exact RdN.rowAll (Pick.app m (by (repeat (first | exact Pick.head | apply Pick.tail | apply Pick.app)))) | exact RdN.own (Pick.app m (by (repeat (first | exact Pick.head | apply Pick.tail | apply Pick.app)))))) (by (first | rfl | assumption | (simp; done) | omega))) ?_)
                    refine JM.gloud rfl rfl rfl rfl (fun fr => l_callF e39 rfl rfl (of_spec E lg3 st3 _ _) ?_)
                    rintro _ _ ⟨cs4, K4, rfl, hB4, rfl⟩
                    refine ⟨[_, _], (by (repeat (first | exact Split.nil | exact Split.all | refine Split.cons Pick.head ?_))), ?_⟩
                    refine JM.gearly rfl rfl rfl rfl rfl rfl (fun fr => y_callF e40 rfl (same_spec E K4 K2 cs4 _ _ _ _ _ _ _ _ hB4 hB2 (by (repeat (first | exact Pick.head | apply Pick.tail | apply Pick.app))) (by (repeat (first | exact Pick.head | apply Pick.tail | apply Pick.app))) hcb hcb hctb hctb (by omega) true (decide_eq_true ⟨rfl, rfl⟩))) ?_
                    all_goals (first | refine JM.gskip rfl rfl rfl rfl rfl rfl rfl ?_ | refine JM.gskipU rfl rfl rfl rfl rfl rfl ?_ | refine JM.gquiet rfl rfl rfl rfl rfl rfl (fun m => y_not rfl) ?_)
                    all_goals refine JM.quiet rfl rfl rfl rfl (fun m => y_pick rfl rfl rfl) ?_
                    all_goals refine JM.nil ?_
                    all_goals refine JE.then_normal ?_
                    all_goals
                      refine J.cond_f rfl (by (first | rfl | assumption | (simp; done) | (simp; omega))) ?_
                      refine J.skip ?_
                    all_goals refine JE.then_normal ?_
                    all_goals
                      refine J.seq ?_
                      refine J.seq ?_
                      obtain ⟨L3, D3, e3, eA3, hL3, hd3, hor3⟩ := hLc.put hmore
                      rcases hor3 with ⟨_, rfl, hL3e⟩ | ⟨hno, rfl, rfl, rfl⟩
                      all_goals
                        refine J.region ?_
                        refine JL.step (y_move rfl) rfl rfl rfl ?_
                        refine JL.loud rfl (l_buildSliceP (cs := ints .u8 [109, 111, 114, 101]) hT rfl rfl rfl rfl rfl rfl rfl (fill_b4 _ _ _ _ _) rfl (fun b19 => ?_))
                        refine JL.loud rfl (l_convBytes hT rfl rfl rfl rfl rfl (by (repeat (first | exact Pick.head | apply Pick.tail | apply Pick.app))) rfl ?_)
                        refine JL.loud rfl (l_callF e19 rfl rfl (Fc.on (Split.cons (by (repeat (first | exact Pick.head | apply Pick.tail | apply Pick.app))) (Split.cons (by (repeat (first | exact Pick.head | apply Pick.tail | apply Pick.app))) (Split.cons (by (repeat (first | exact Pick.head | apply Pick.tail | apply Pick.app))) Split.nil))) (append_lh E lg3 st3 d _ hLc [109, 111, 114, 101] _ _ 4 rfl hmore (by omega) eA3 (InL.ofMrow (by (repeat (first | exact Pick.head | apply Pick.tail | apply Pick.app))) (by decide)))) ?_)
                        rintro _ _ ⟨rfl, rfl⟩
                        refine JL.step (y_eql rfl rfl) rfl rfl rfl ?_
                        refine JL.nil ?_
                      all_goals refine JE.then_normal ?_
                      all_goals
                        focus
                          first | apply J.cond_dec rfl | apply J.cond rfl
                          focus
                            intro h
                            try (first | (exfalso; omega) | (cases h; done) | (exfalso; simp at h; done) | subst h)
                            all_goals
                              refine J.seq ?_
                              refine J.region ?_
                              refine JL.step (y_move rfl) rfl rfl rfl ?_
                              refine JL.loud rfl (l_callF e30 rfl rfl (Fc.on (Split.cons (by (repeat (first | exact Pick.head | apply Pick.tail | apply Pick.app))) Split.nil) (again_spec E d _ hL3 (by omega))) ?_)
                              rintro _ _ ⟨lg5, st5, rfl, rfl⟩
                              refine JL.step (y_move rfl) rfl rfl rfl (JL.step (y_extract rfl rfl) rfl rfl rfl (JL.step (y_extract rfl rfl) rfl rfl rfl (JL.step (y_assign rfl) rfl rfl rfl (JL.step (y_assign rfl) rfl rfl rfl ?_))))
                              refine JL.nil ?_
                              refine JE.then_normal ?_
                              refine J.seq ?_
                              refine J.draw _ _ [(0, .q), (1, .q), (2, .q), (5, .q), (6, .q), (7, .q), (8, .q), (3, .l), (4, .q), (9, .q), (10, .q), (11, .q)] mixed (by kernel_rfl) (Split.cons (Pick.head) (Split.nil)) ?_
                              refine JM.quiet rfl rfl rfl rfl (fun m => y_move rfl) ?_
                              refine JM.quiet rfl rfl rfl rfl (fun m => y_move rfl) ?_
                              all_goals (first | refine JM.gskip rfl rfl rfl rfl rfl rfl rfl ?_ | refine JM.gskipU rfl rfl rfl rfl rfl rfl ?_ | refine JM.gquiet rfl rfl rfl rfl rfl rfl (fun m => y_move rfl) ?_)
                              all_goals (first | refine JM.gskip rfl rfl rfl rfl rfl rfl rfl ?_ | refine JM.gskipU rfl rfl rfl rfl rfl rfl ?_ | refine JM.gquiet rfl rfl rfl rfl rfl rfl (fun m => y_fieldAddr hT rfl rfl rfl rfl rfl rfl) ?_)
                              all_goals (first | refine JM.gskip rfl rfl rfl rfl rfl rfl rfl ?_ | refine JM.gskipU rfl rfl rfl rfl rfl rfl ?_ | refine JM.gquiet rfl rfl rfl rfl rfl rfl (fun m => y_load1 hT rfl rfl rfl (by (exact Rd1.row (Pick.app m (by (repeat (first | exact Pick.head | apply Pick.tail | apply Pick.app)))) (by rfl)))) ?_)
                              all_goals (first | refine JM.gskip rfl rfl rfl rfl rfl rfl rfl ?_ | refine JM.gskipU rfl rfl rfl rfl rfl rfl ?_ | refine JM.gquiet rfl rfl rfl rfl rfl rfl (fun m => y_len_slice hT rfl rfl rfl) ?_)
                              all_goals (first | refine JM.gskip rfl rfl rfl rfl rfl rfl rfl ?_ | refine JM.gskipU rfl rfl rfl rfl rfl rfl ?_ | refine JM.gquiet rfl rfl rfl rfl rfl rfl (fun m => y_add rfl rfl (by (first | exact wrap_i64 (by omega) (by omega) | rfl))) ?_)
                              refine JM.gloud rfl rfl rfl rfl (fun fr => l_callF e24 rfl rfl (ltxs_len1 E lg5 st5 L3 (L2.txs.length + 1) _ (by rw [hL3e]; simp)) ?_)
                              rintro _ _ ⟨ua, uc, K5, rfl, rfl⟩
                              refine ⟨[_, _], (by (repeat (first | exact Split.nil | exact Split.all | refine Split.cons Pick.head ?_))), ?_⟩
                              all_goals (first | refine JM.gskip rfl rfl rfl rfl rfl rfl rfl ?_ | refine JM.gskipU rfl rfl rfl rfl rfl rfl ?_ | refine JM.gquiet rfl rfl rfl rfl rfl rfl (fun m => y_len_slice hT rfl rfl rfl) ?_)
                              all_goals (first | refine JM.gskip rfl rfl rfl rfl rfl rfl rfl ?_ | refine JM.gskipU rfl rfl rfl rfl rfl rfl ?_ | refine JM.gquiet rfl rfl rfl rfl rfl rfl (fun m => y_eql rfl rfl) ?_)
                              all_goals refine JM.quiet rfl rfl rfl rfl (fun m => y_pick rfl rfl rfl) ?_
                              all_goals refine JM.quiet rfl rfl rfl rfl (fun m => y_assign rfl) ?_
                              all_goals refine JM.nil ?_
                              all_goals refine JE.then_normal ?_
                              all_goals
                                refine J.ret ?_
                                refine JE.then_ret ?_
                                refine JE.ret1 (.inl rfl) rfl rfl (by (first | exact RV.tmp rfl | exact RV.cell1 hT rfl rfl rfl (by (exact Rd1.row (by (repeat (first | exact Pick.head | apply Pick.tail | apply Pick.app))) (by rfl))) | exact RV.cellN hT rfl rfl rfl (by (first | exact RdN.rowAll (by (repeat (first | exact Pick.head | apply Pick.tail | apply Pick.app))) | exact RdN.own (by (repeat (first | exact Pick.head | apply Pick.tail | apply Pick.app))))) (by (first | rfl | assumption | (simp; done) | omega)))) ?_
                                refine ⟨by first | rfl | (simp; done), fun w q => ?_⟩
                                exact (Sat.keptR (A := stars [KA, K1]) (B := K0) (by rw [← hK] at q; exact q) (by (repeat (first | exact Pick.head | apply Pick.tail | apply Pick.app)))).sup (by (repeat (first | exact Sup.refl | apply Sup.cons (by (repeat (first | exact Pick.head | apply Pick.tail | apply Pick.app))) | apply Sup.app | apply Sup.skip | apply Sup.skips)))
                          rotate_right 1
                          focus
                            intro h
                            try (first | (exfalso; omega) | (cases h; done) | (exfalso; simp at h; done) | subst h)
                            all_goals
                              refine J.skip ?_
                      all_goals refine JE.then_normal ?_
                      all_goals
                        refine J.seq ?_
                        refine J.region ?_
                        refine JL.step (y_move rfl) rfl rfl rfl ?_
                        refine JL.loud rfl (l_callF e16 rfl rfl (Fc.on (Split.cons (by (repeat (first | exact Pick.head | apply Pick.tail | apply Pick.app))) (Split.cons (by (repeat (first | exact Pick.head | apply Pick.tail | apply Pick.app))) (Split.cons (by (repeat (first | exact Pick.head | apply Pick.tail | apply Pick.app))) Split.nil))) (room_no E lg3 st3 d hLc 4 (by decide) hno _)) ?_)
                        rintro _ _ ⟨rfl, rfl⟩
                        refine JL.step (y_not rfl) rfl rfl rfl (JL.step (y_assign rfl) rfl rfl rfl ?_)
                        refine JL.nil ?_
                        refine JE.then_normal ?_
                        refine J.ret ?_
                        refine JE.ret1 (.inl rfl) rfl rfl (by (first | exact RV.tmp rfl | exact RV.cell1 hT rfl rfl rfl (by (exact Rd1.row (by (repeat (first | exact Pick.head | apply Pick.tail | apply Pick.app))) (by rfl))) | exact RV.cellN hT rfl rfl rfl (by (first | exact RdN.rowAll (by (repeat (first | exact Pick.head | apply Pick.tail | apply Pick.app))) | exact RdN.own (by (repeat (first | exact Pick.head | apply Pick.tail | apply Pick.app))))) (by (first | rfl | assumption | (simp; done) | omega)))) ?_
                        refine ⟨by first | rfl | (simp; done), fun w q => ?_⟩
                        exact (Sat.keptR (A := stars [KA, K1]) (B := K0) (by rw [← hK] at q; exact q) (by (repeat (first | exact Pick.head | apply Pick.tail | apply Pick.app)))).sup (by (repeat (first | exact Sup.refl | apply Sup.cons (by (repeat (first | exact Pick.head | apply Pick.tail | apply Pick.app))) | apply Sup.app | apply Sup.skip | apply Sup.skips)))
          ·
            have hf : A.txs.length ≤ 31 := hAn
            have h64 : 64 ≤ (X.crash keep).safe.length := by rw [crash_len]; omega
            refine J.seq ?_
            refine J.region ?_
            refine JL.step (y_assign rfl) rfl rfl rfl ?_
            refine JL.nil ?_
            refine JE.then_normal ?_
            refine J.seq ?_
            refine J.seq ?_
            refine J.region ?_
            refine JL.step (y_loadN hT rfl rfl rfl (by (first | exact RdN.rowAll (by (repeat (first | exact Pick.head | apply Pick.tail | apply Pick.app))) | exact RdN.own (by (repeat (first | exact Pick.head | apply Pick.tail | apply Pick.app))))) (by (first | rfl | assumption | (simp; done) | omega))) rfl rfl rfl ?_
            refine JL.loud rfl (l_callF e33 rfl rfl (kind12_spec E o _) ?_)
            rintro _ _ ⟨rfl, rfl⟩
            refine JL.step (y_eql rfl rfl) rfl rfl rfl ?_
            refine JL.nil ?_
            refine JE.then_normal ?_
            refine J.cond_f rfl (by (first | rfl | assumption | (simp; done) | (simp; omega))) ?_
            refine J.region ?_
            refine JL.step (y_move rfl) rfl rfl rfl ?_
            refine JL.step (y_loadN hT rfl rfl rfl (by (first | exact RdN.rowAll (by (repeat (first | exact Pick.head | apply Pick.tail | apply Pick.app))) | exact RdN.own (by (repeat (first | exact Pick.head | apply Pick.tail | apply Pick.app))))) (by (first | rfl | assumption | (simp; done) | omega))) rfl rfl rfl ?_
            refine JL.loud rfl (l_callF e32 rfl rfl (cbytes _) ?_)
            rintro _ _ ⟨rfl, rfl⟩
            refine JL.loud rfl (l_callF e19 rfl rfl (Fc.on (Split.cons (by (repeat (first | exact Pick.head | apply Pick.tail | apply Pick.app))) (Split.cons (by (repeat (first | exact Pick.head | apply Pick.tail | apply Pick.app))) (Split.cons (by (repeat (first | exact Pick.head | apply Pick.tail | apply Pick.app))) Split.nil))) (append_arm2 E lg st d _ hL k b bp bc b.length rfl hsm (by omega) eR (hbin.kept (by (repeat (first | exact Pick.head | apply Pick.tail | apply Pick.app)))))) ?_)
            rintro _ _ ⟨rfl, rfl⟩
            refine JL.step (y_assign rfl) rfl rfl rfl ?_
            refine JL.nil ?_
            refine JE.then_normal ?_
            refine J.seq ?_
            refine J.seq ?_
            refine J.region ?_
            refine JL.step (y_move rfl) rfl rfl rfl (JL.step (y_neq rfl rfl) rfl rfl rfl (JL.step (y_move rfl) rfl rfl rfl ?_))
            all_goals (first | (refine JL.gsplit_dec rfl rfl rfl (fun h => ?_) (fun h => ?_) <;> try (first | (exfalso; omega) | exact absurd rfl h)) | (refine JL.gsplit rfl rfl rfl (fun h => ?_) (fun h => ?_) <;> try (first | cases h | (exfalso; simp at h; done))) | skip)
            all_goals (first | refine JL.gskip rfl rfl rfl rfl rfl rfl ?_ | refine JL.gskipU rfl rfl rfl rfl rfl ?_ | refine JL.gstep rfl rfl rfl (y_move rfl) rfl rfl ?_)
            all_goals (first | refine JL.gskip rfl rfl rfl rfl rfl rfl ?_ | refine JL.gskipU rfl rfl rfl rfl rfl ?_ | refine JL.gstep rfl rfl rfl (y_neq rfl rfl) rfl rfl ?_)
            all_goals (refine JL.step (y_pick rfl rfl rfl) rfl rfl rfl ?_)
            all_goals refine JL.nil ?_
            all_goals refine JE.then_normal ?_
            all_goals
              refine J.cond_f rfl (by (first | rfl | assumption | (simp; done) | (simp; omega))) ?_
              refine J.skip ?_
            all_goals refine JE.then_normal ?_
            all_goals
              refine J.seq ?_
              refine J.draw _ _ [(0, .q), (1, .q), (3, .q), (4, .q), (6, .q), (2, .n), (5, .l), (7, .q), (8, .n), (9, .l), (10, .q), (11, .n), (12, .l)] mixed (by kernel_rfl) (Split.nil) ?_
              refine JM.quiet rfl rfl rfl rfl (fun m => y_fieldAddr hT rfl rfl rfl rfl rfl rfl) ?_
              refine JM.quiet rfl rfl rfl rfl (fun m => y_load1 hT rfl rfl rfl (by (exact Rd1.row (Pick.app m (by (repeat (first | exact Pick.head | apply Pick.tail | apply Pick.app)))) (by rfl)))) ?_
              refine JM.quiet rfl rfl rfl rfl (fun m => y_fieldAddr hT rfl rfl rfl rfl rfl rfl) ?_
              refine JM.quiet rfl rfl rfl rfl (fun m => y_load1 hT rfl rfl rfl (by (exact Rd1.row (Pick.app m (by (repeat (first | exact Pick.head | apply Pick.tail | apply Pick.app)))) (by rfl)))) ?_
              refine JM.quiet rfl rfl rfl rfl (fun m => y_loadN hT rfl rfl rfl (by (first | exact RdN.rowAll (Pick.app m (by (repeat (first | exact Pick.head | apply Pick.tail | apply Pick.app)))) | exact RdN.own (Pick.app m (by (repeat (first | exact Pick.head | apply Pick.tail | apply Pick.app)))))) (by (first | rfl | assumption | (simp; done) | omega))) ?_
              refine JM.lay rfl rfl rfl rfl (fun a hf => lays_buildSlice0 hT rfl rfl rfl) (fun b11 => ?_)
              refine JM.loud rfl rfl (fun fr => LS.pre (fun w s => Sat.own_zero (size := 1) (s.pick (by (repeat (first | exact Pick.head | apply Pick.tail | apply Pick.app))))) (l_appendIn (nn := 0) (m := L.txs.length) hT rfl rfl rfl rfl rfl rfl rfl rfl Pick.head (hq1.kept (by (repeat (first | exact Pick.head | apply Pick.tail | apply Pick.app)))) (by rw [show i36.size = 1 from rfl, hv1, Nat.mul_one]) hv1o (by rw [show i36.bytes = 24 from rfl]; omega) (by omega) rfl (fun a1 a1c ha1 => ⟨[_], (by (repeat (first | exact Split.nil | exact Split.all | refine Split.cons Pick.head ?_))), ?_⟩)))
              rw [Nat.zero_add L.txs.length, List.nil_append v1]
              refine JM.quiet rfl rfl rfl rfl (fun m => y_callF e32 rfl (cbytes _)) ?_
              refine JM.lay rfl rfl rfl rfl (fun a hf => lays_buildSlice hT rfl rfl rfl rfl hf rfl rfl rfl (by (first | exact fill_one rfl (by first | assumption | rfl | (simp; done)) | rfl | simp))) (fun b12 => ?_)
              refine JM.loud rfl rfl (fun fr => l_appendIn (nn := L.txs.length) (m := 1) hT rfl rfl rfl rfl rfl rfl rfl rfl (by (repeat (first | exact Pick.head | apply Pick.tail | apply Pick.app))) (InL.ofRow (cs := [.slice bp b.length bc]) (by (repeat (first | exact Pick.head | apply Pick.tail | apply Pick.app))) (by decide)) (by rfl) (ones_of rfl) (by rw [show i36.bytes = 24 from rfl]; omega) (by omega) rfl (fun a2 a2c ha2 => ⟨[_, _], (by (repeat (first | exact Split.nil | exact Split.all | refine Split.cons Pick.head ?_))), ?_⟩))
              refine JM.quiet rfl rfl rfl rfl (fun m => y_build (cs := [_, _]) hT rfl rfl rfl rfl rfl rfl ⟨⟨(by (first | rfl | assumption | (simp; done) | omega)), Nat.le_of_ble_eq_true rfl⟩, ⟨⟨(by (first | rfl | assumption | (simp; done) | omega)), Nat.le_of_ble_eq_true rfl⟩, trivial⟩⟩ rfl) ?_
              refine JM.lay rfl rfl rfl rfl (fun a hf => lays_alloc hT rfl rfl (by (first | rfl | simp))) (fun b15 => ?_)
              refine JM.loud rfl rfl (fun fr => l_storeAll hT rfl rfl rfl (by (first | rfl | assumption | (simp; done) | omega)) (by (first | assumption | exact ones_of rfl | exact encW_one _ | exact encB_one _ | (intro u hu; simp at hu; rcases hu with rfl | rfl <;> rfl) | (intro u hu; simp at hu; subst hu; rfl) | simp)) (by (repeat (first | exact Pick.head | apply Pick.tail | apply Pick.app))) (by (first | rfl | assumption | (simp; done) | omega)) (⟨[_, _, _], (by (repeat (first | exact Split.nil | exact Split.all | refine Split.cons Pick.head ?_))), ?_⟩))
              refine JM.nil ?_
              refine JE.then_normal ?_
              refine J.seq ?_
              refine J.seq ?_
              refine J.fact (p := OwnAt a2 (L.txs.length + 1) a2c (v1 ++ [.slice bp b.length bc])) (fun w s => Sat.own_at (s.pick (by (repeat (first | exact Pick.head | apply Pick.tail | apply Pick.app))))) fun oa2 => ?_
              obtain ⟨KA, hKA⟩ : ∃ K, own 36 1 (.slice a2 (L.txs.length + 1) a2c) (L.txs.length + 1) (v1 ++ [.slice bp b.length bc]) = K := ⟨_, rfl⟩
              have oin := oa2.inl (l := [own 36 1 (.slice a2 (L.txs.length + 1) a2c) (L.txs.length + 1) (v1 ++ [.slice bp b.length bc])]) Pick.head
              obtain ⟨K, hK⟩ : ∃ K, stars [stars [KA, K1], K0] = K := ⟨_, rfl⟩
              refine J.lists (fun w q => show Sat E (stars (logm lg st A :: K :: row st 90 (scells S d) :: disk d X :: row b15 74 [.slice p1 L.snap.length c1, .slice a2 (L.txs.length + 1) a2c] :: row b4 61 (opE o) :: row b5 72 [.int .i64 at_, .slice kp keep.length kc] :: row b13 74 [.slice p1 L.snap.length c1, .slice q1 L.txs.length d1] :: [])) w from by rw [← hK, ← hKA]; exact (Sat.fold (m := [stars [_, K1], K0]) (Sat.fold (m := [_, K1]) (q.sup (p := own 36 1 (.slice a2 (L.txs.length + 1) a2c) (L.txs.length + 1) (v1 ++ [.slice bp b.length bc]) :: K1 :: K0 :: logm lg st A :: row st 90 (scells S d) :: disk d X :: row b15 74 [.slice p1 L.snap.length c1, .slice a2 (L.txs.length + 1) a2c] :: row b4 61 (opE o) :: row b5 72 [.int .i64 at_, .slice kp keep.length kc] :: row b13 74 [.slice p1 L.snap.length c1, .slice q1 L.txs.length d1] :: []) (by (repeat (first | exact Sup.refl | apply Sup.cons (by (repeat (first | exact Pick.head | apply Pick.tail | apply Pick.app))) | apply Sup.app | apply Sup.skip | apply Sup.skips)))))).pick (Pick.tail Pick.head)) ?_
              have hinkK : InL [K] kp keep.length kc (keep.map Value.bool) := by rw [← hK]; exact hink.keepR
              have hbinK : InL [K] bp b.length bc (ints .u8 b) := by rw [← hK]; exact hbin.keepR
              have hBK : StB K [.slice p1 L.snap.length c1, .slice q1 L.txs.length d1] L.snap L.txs := by rw [← hK]; exact hB1.keepR.keepL
              have hBN : StB K [.slice p1 L.snap.length c1, .slice a2 (L.txs.length + 1) a2c] L.snap (L.txs ++ [b]) := by
                rw [← hK, ← hKA]
                exact ⟨p1, c1, a2, a2c, v1 ++ [.slice bp b.length bc], by simp, hs1.keepR.keepL, by rw [List.length_append]; exact oin.keepL.keepL, hx1.keepR.keepL.put hbin.keepR⟩
              refine J.region ?_
              refine JL.step (y_loadN hT rfl rfl rfl (by (first | exact RdN.rowAll (by (repeat (first | exact Pick.head | apply Pick.tail | apply Pick.app))) | exact RdN.own (by (repeat (first | exact Pick.head | apply Pick.tail | apply Pick.app))))) (by (first | rfl | assumption | (simp; done) | omega))) rfl rfl rfl ?_
              refine JL.loud rfl (l_callF e33 rfl rfl (kind12_spec E o _) ?_)
              rintro _ _ ⟨rfl, rfl⟩
              refine JL.step (y_eql rfl rfl) rfl rfl rfl ?_
              refine JL.nil ?_
              refine JE.then_normal ?_
              refine J.cond_f rfl (by (first | rfl | assumption | (simp; done) | (simp; omega))) ?_
              refine J.skip ?_
              refine JE.then_normal ?_
              refine J.seq ?_
              refine J.seq ?_
              have hBA : StB K [.slice p1 L.snap.length c1, .slice a2 (L.txs.length + 1) a2c] A.snap A.txs := by rw [hAs, hAt]; exact hBN
              refine J.draw _ _ [(0, .q), (1, .q), (2, .q), (3, .q), (5, .q), (4, .l), (6, .e), (7, .q), (8, .q)] mixed (by kernel_rfl) (Split.cons (Pick.head) (Split.nil)) ?_
              refine JM.quiet rfl rfl rfl rfl (fun m => y_move rfl) ?_
              refine JM.quiet rfl rfl rfl rfl (fun m => y_eql rfl rfl) ?_
              refine JM.quiet rfl rfl rfl rfl (fun m => y_move rfl) ?_
              all_goals (first | refine JM.gskip rfl rfl rfl rfl rfl rfl rfl ?_ | refine JM.gskipU rfl rfl rfl rfl rfl rfl ?_ | refine JM.gquiet rfl rfl rfl rfl rfl rfl (fun m => y_move rfl) ?_)
              all_goals (first | refine JM.gskip rfl rfl rfl rfl rfl rfl rfl ?_ | refine JM.gskipU rfl rfl rfl rfl rfl rfl ?_ | refine JM.gquiet rfl rfl rfl rfl rfl rfl (fun m => y_loadN hT rfl rfl rfl (by (first | exact RdN.rowAll (Pick.app m (by (repeat (first | exact Pick.head | apply Pick.tail | apply Pick.app)))) | exact RdN.own (Pick.app m (by (repeat (first | exact Pick.head | apply Pick.tail | apply Pick.app)))))) (by (first | rfl | assumption | (simp; done) | omega))) ?_)
              refine JM.gloud rfl rfl rfl rfl (fun fr => l_callF e39 rfl rfl (of_spec E lg st A _) ?_)
              rintro _ _ ⟨cs3, K3, rfl, hB3, rfl⟩
              refine ⟨[_, _], (by (repeat (first | exact Split.nil | exact Split.all | refine Split.cons Pick.head ?_))), ?_⟩
              refine JM.gearly rfl rfl rfl rfl rfl rfl (fun fr => y_callF e40 rfl (same_spec E K3 K cs3 _ A.snap A.snap A.txs A.txs _ _ _ hB3 hBA (by (repeat (first | exact Pick.head | apply Pick.tail | apply Pick.app))) (by (repeat (first | exact Pick.head | apply Pick.tail | apply Pick.app))) hAb hAb hAtb hAtb (by omega) true (by simp))) ?_
              all_goals (first | refine JM.gskip rfl rfl rfl rfl rfl rfl rfl ?_ | refine JM.gskipU rfl rfl rfl rfl rfl rfl ?_ | refine JM.gquiet rfl rfl rfl rfl rfl rfl (fun m => y_not rfl) ?_)
              all_goals refine JM.quiet rfl rfl rfl rfl (fun m => y_pick rfl rfl rfl) ?_
              all_goals refine JM.nil ?_
              all_goals refine JE.then_normal ?_
              all_goals
                refine J.cond_f rfl (by (first | rfl | assumption | (simp; done) | (simp; omega))) ?_
                refine J.skip ?_
              all_goals refine JE.then_normal ?_
              all_goals
                refine J.seq ?_
                refine J.seq ?_
                refine J.region ?_
                refine JL.step (y_move rfl) rfl rfl rfl ?_
                refine JL.loud rfl (l_buildSlice0 hT rfl rfl rfl rfl (fun b16 => ?_))
                refine JL.step (y_fieldAddr hT rfl rfl rfl rfl rfl rfl) rfl rfl rfl ?_
                refine JL.step (y_load1 hT rfl rfl rfl (by (exact Rd1.row (by (repeat (first | exact Pick.head | apply Pick.tail | apply Pick.app))) (by rfl)))) rfl rfl rfl ?_
                refine JL.loud rfl (l_appendIn hT rfl rfl rfl rfl rfl rfl rfl rfl (by (repeat (first | exact Pick.head | apply Pick.tail | apply Pick.app))) (hinkK.kept (by (repeat (first | exact Pick.head | apply Pick.tail | apply Pick.app)))) (by rw [show i4.size = 1 from rfl]; simp) (by intro u hu; simp only [List.mem_map] at hu; obtain ⟨z, _, rfl⟩ := hu; rfl) (by rw [show i4.bytes = 1 from rfl]; omega) (by omega) rfl (fun ka kc' hc' => ?_))
                rw [Nat.zero_add keep.length, List.nil_append (keep.map Value.bool)]
                refine JL.loud rfl (l_callF e29 rfl rfl (Fc.fact (p := OwnAt ka keep.length kc' (keep.map Value.bool)) (fun w s => Sat.own_at (s.pick (by (repeat (first | exact Pick.head | apply Pick.tail | apply Pick.app))))) fun ok => Fc.on (Split.cons (by (repeat (first | exact Pick.head | apply Pick.tail | apply Pick.app))) Split.nil) (crash_spec E d X _ _ keep _ (ok.inl (by (repeat (first | exact Pick.head | apply Pick.tail | apply Pick.app)))) (by omega))) ?_)
                rintro _ _ ⟨rfl, rfl⟩
                refine JL.step (y_neq rfl rfl) rfl rfl rfl ?_
                refine JL.nil ?_
                refine JE.then_normal ?_
                refine J.cond_f rfl (by (first | rfl | assumption | (simp; done) | (simp; omega))) ?_
                refine J.skip ?_
                refine JE.then_normal ?_
                refine J.seq ?_
                refine J.seq ?_
                refine J.region ?_
                refine JL.step (y_move rfl) rfl rfl rfl (JL.step (y_eql rfl rfl) rfl rfl rfl (JL.step (y_move rfl) rfl rfl rfl ?_))
                all_goals (first | (refine JL.gsplit_dec rfl rfl rfl (fun h => ?_) (fun h => ?_) <;> try (first | (exfalso; omega) | exact absurd rfl h)) | (refine JL.gsplit rfl rfl rfl (fun h => ?_) (fun h => ?_) <;> try (first | cases h | (exfalso; simp at h; done))) | skip)
                all_goals (first | refine JL.gskip rfl rfl rfl rfl rfl rfl ?_ | refine JL.gskipU rfl rfl rfl rfl rfl ?_ | refine JL.gstep rfl rfl rfl (y_move rfl) rfl rfl ?_)
                all_goals (first | refine JL.gskip rfl rfl rfl rfl rfl rfl ?_ | refine JL.gskipU rfl rfl rfl rfl rfl ?_ | (refine JL.gloud rfl rfl rfl (l_callF e19 rfl rfl (Fc.on (Split.cons (by (repeat (first | exact Pick.head | apply Pick.tail | apply Pick.app))) (Split.cons (by (repeat (first | exact Pick.head | apply Pick.tail | apply Pick.app))) (Split.cons (by (repeat (first | exact Pick.head | apply Pick.tail | apply Pick.app))) Split.nil))) (append_broken E lg st d _ hhash (by omega) (Nat.zero_le _) (by omega))) ?_); rintro _ _ ⟨rfl, rfl⟩))
                all_goals (first | refine JL.gskip rfl rfl rfl rfl rfl rfl ?_ | refine JL.gskipU rfl rfl rfl rfl rfl ?_ | refine JL.gstep rfl rfl rfl (y_neq rfl rfl) rfl rfl ?_)
                all_goals (first | refine JL.gskip rfl rfl rfl rfl rfl rfl ?_ | refine JL.gskipU rfl rfl rfl rfl rfl ?_ | refine JL.gstep rfl rfl rfl (y_move rfl) rfl rfl ?_)
                all_goals (first | (refine JL.gsplit_dec rfl rfl rfl (fun h => ?_) (fun h => ?_) <;> try (first | (exfalso; omega) | exact absurd rfl h)) | (refine JL.gsplit rfl rfl rfl (fun h => ?_) (fun h => ?_) <;> try (first | cases h | (exfalso; simp at h; done))) | skip)
                all_goals (first | refine JL.gskip rfl rfl rfl rfl rfl rfl ?_ | refine JL.gskipU rfl rfl rfl rfl rfl ?_ | refine JL.gstep rfl rfl rfl (y_move rfl) rfl rfl ?_)
                all_goals (first | refine JL.gskip rfl rfl rfl rfl rfl rfl ?_ | refine JL.gskipU rfl rfl rfl rfl rfl ?_ | (refine JL.gloud rfl rfl rfl (l_callF e18 rfl rfl (Fc.on (Split.cons (by (repeat (first | exact Pick.head | apply Pick.tail | apply Pick.app))) (Split.cons (by (repeat (first | exact Pick.head | apply Pick.tail | apply Pick.app))) (Split.cons (by (repeat (first | exact Pick.head | apply Pick.tail | apply Pick.app))) Split.nil))) (check_broken E lg st d _ hhash (by omega) hplace (Nat.zero_le _))) ?_); rintro _ _ ⟨rfl, rfl⟩))
                all_goals (first | refine JL.gskip rfl rfl rfl rfl rfl rfl ?_ | refine JL.gskipU rfl rfl rfl rfl rfl ?_ | refine JL.gstep rfl rfl rfl (y_neq rfl rfl) rfl rfl ?_)
                all_goals (first | refine JL.gskip rfl rfl rfl rfl rfl rfl ?_ | refine JL.gskipU rfl rfl rfl rfl rfl ?_ | refine JL.gstep rfl rfl rfl (y_pick rfl rfl rfl) rfl rfl ?_)
                all_goals (refine JL.step (y_pick rfl rfl rfl) rfl rfl rfl ?_)
                all_goals refine JL.nil ?_
                all_goals refine JE.then_normal ?_
                all_goals
                  refine J.cond_f rfl (by (first | rfl | assumption | (simp; done) | (simp; omega))) ?_
                  refine J.skip ?_
                all_goals refine JE.then_normal ?_
                all_goals
                  refine J.seq ?_
                  refine J.region ?_
                  refine JL.step (y_move rfl) rfl rfl rfl ?_
                  refine JL.loud rfl (l_callF e30 rfl rfl (Fc.on (Split.cons (by (repeat (first | exact Pick.head | apply Pick.tail | apply Pick.app))) Split.nil) (again_spec E d _ hLc h64)) ?_)
                  rintro _ _ ⟨lg2, st2, rfl, rfl⟩
                  refine JL.step (y_move rfl) rfl rfl rfl (JL.step (y_extract rfl rfl) rfl rfl rfl (JL.step (y_extract rfl rfl) rfl rfl rfl (JL.step (y_assign rfl) rfl rfl rfl (JL.step (y_assign rfl) rfl rfl rfl ?_))))
                  refine JL.nil ?_
                  refine JE.then_normal ?_
                  refine J.seq ?_
                  refine J.seq ?_
                  refine J.region ?_
                  refine JL.step (y_move rfl) rfl rfl rfl (JL.step (y_not rfl) rfl rfl rfl ?_)
                  refine JL.nil ?_
                  refine JE.then_normal ?_
                  refine J.cond_f rfl (by (first | rfl | assumption | (simp; done) | (simp; omega))) ?_
                  refine J.skip ?_
                  refine JE.then_normal ?_
                  refine J.seq ?_
                  refine J.region ?_
                  refine JL.step (y_move rfl) rfl rfl rfl ?_
                  refine JL.loud rfl (l_callF e39 rfl rfl (Fc.on (Split.cons (by (repeat (first | exact Pick.head | apply Pick.tail | apply Pick.app))) Split.nil) (of_spec E lg2 st2 _ _)) ?_)
                  rintro _ _ ⟨cs2, K2, rfl, ⟨p2, c2, q2, d2, v2, rfl, hs2, hq2, hx2⟩, rfl⟩
                  refine JL.loud rfl (l_alloc hT rfl rfl (by (first | rfl | simp)) rfl (fun b18 => ?_))
                  refine JL.loud rfl (l_storeAll hT rfl rfl rfl (by (first | rfl | assumption | (simp; done) | omega)) (by (first | assumption | exact ones_of rfl | exact encW_one _ | exact encB_one _ | (intro u hu; simp at hu; rcases hu with rfl | rfl <;> rfl) | (intro u hu; simp at hu; subst hu; rfl) | simp)) (by (repeat (first | exact Pick.head | apply Pick.tail | apply Pick.app))) (by (first | rfl | assumption | (simp; done) | omega)) ?_)
                  refine JL.nil ?_
                  refine JE.then_normal ?_
                  refine J.seq ?_
                  refine J.seq ?_
                  have hB2 : StB K2 _ A.snap A.txs := ⟨p2, c2, q2, d2, v2, rfl, hs2, hq2, hx2⟩
                  obtain ⟨be, hbe⟩ : ∃ be, decide (A.snap = L.snap ∧ A.txs = L.txs) = be := ⟨_, rfl⟩
                  have hbt : be = false → decide (A.snap = A.snap ∧ A.txs = A.txs) = true := fun _ => by simp
                  have hcb := hAb
                  have hctb := hAtb
                  cases be
                  all_goals
                    refine J.region ?_
                    refine JL.step (y_move rfl) rfl rfl rfl (JL.step (y_eql rfl rfl) rfl rfl rfl (JL.step (y_move rfl) rfl rfl rfl ?_))
                    all_goals (first | (refine JL.gsplit_dec rfl rfl rfl (fun h => ?_) (fun h => ?_) <;> try (first | (exfalso; omega) | exact absurd rfl h)) | (refine JL.gsplit rfl rfl rfl (fun h => ?_) (fun h => ?_) <;> try (first | cases h | (exfalso; simp at h; done))) | skip)
                    all_goals (first | refine JL.gskip rfl rfl rfl rfl rfl rfl ?_ | refine JL.gskipU rfl rfl rfl rfl rfl ?_ | refine JL.gstep rfl rfl rfl (y_loadN hT rfl rfl rfl (by (first | exact RdN.rowAll (by (repeat (first | exact Pick.head | apply Pick.tail | apply Pick.app))) | exact RdN.own (by (repeat (first | exact Pick.head | apply Pick.tail | apply Pick.app))))) (by (first | rfl | assumption | (simp; done) | omega))) rfl rfl ?_)
                    all_goals (first | refine JL.gskip rfl rfl rfl rfl rfl rfl ?_ | refine JL.gskipU rfl rfl rfl rfl rfl ?_ | refine JL.gstep rfl rfl rfl (y_loadN hT rfl rfl rfl (by (first | exact RdN.rowAll (by (repeat (first | exact Pick.head | apply Pick.tail | apply Pick.app))) | exact RdN.own (by (repeat (first | exact Pick.head | apply Pick.tail | apply Pick.app))))) (by (first | rfl | assumption | (simp; done) | omega))) rfl rfl ?_)
                    all_goals (first | refine JL.gskip rfl rfl rfl rfl rfl rfl ?_ | refine JL.gskipU rfl rfl rfl rfl rfl ?_ | (refine JL.gloud rfl rfl rfl (l_callF e40 rfl rfl (same_spec E K2 K _ _ A.snap A.snap A.txs A.txs _ _ _ hB2 hBA (by (repeat (first | exact Pick.head | apply Pick.tail | apply Pick.app))) (by (repeat (first | exact Pick.head | apply Pick.tail | apply Pick.app))) hAb hAb hAtb hAtb (by omega) true (by simp)) ?_); rintro _ _ ⟨rfl, rfl⟩))
                    all_goals (first | refine JL.gskip rfl rfl rfl rfl rfl rfl ?_ | refine JL.gskipU rfl rfl rfl rfl rfl ?_ | refine JL.gstep rfl rfl rfl (y_not rfl) rfl rfl ?_)
                    all_goals (refine JL.step (y_pick rfl rfl rfl) rfl rfl rfl ?_)
                    all_goals (refine JL.step (y_move rfl) rfl rfl rfl ?_)
                    all_goals (first | (refine JL.gsplit_dec rfl rfl rfl (fun h => ?_) (fun h => ?_) <;> try (first | (exfalso; omega) | exact absurd rfl h)) | (refine JL.gsplit rfl rfl rfl (fun h => ?_) (fun h => ?_) <;> try (first | cases h | (exfalso; simp at h; done))) | skip)
                    all_goals (first | refine JL.gskip rfl rfl rfl rfl rfl rfl ?_ | refine JL.gskipU rfl rfl rfl rfl rfl ?_ | refine JL.gstep rfl rfl rfl (y_loadN hT rfl rfl rfl (by (first | exact RdN.rowAll (by (repeat (first | exact Pick.head | apply Pick.tail | apply Pick.app))) | exact RdN.own (by (repeat (first | exact Pick.head | apply Pick.tail | apply Pick.app))))) (by (first | rfl | assumption | (simp; done) | omega))) rfl rfl ?_)
                    all_goals (first | refine JL.gskip rfl rfl rfl rfl rfl rfl ?_ | refine JL.gskipU rfl rfl rfl rfl rfl ?_ | refine JL.gstep rfl rfl rfl (y_loadN hT rfl rfl rfl (by (first | exact RdN.rowAll (by (repeat (first | exact Pick.head | apply Pick.tail | apply Pick.app))) | exact RdN.own (by (repeat (first | exact Pick.head | apply Pick.tail | apply Pick.app))))) (by (first | rfl | assumption | (simp; done) | omega))) rfl rfl ?_)
                    all_goals (first | refine JL.gskip rfl rfl rfl rfl rfl rfl ?_ | refine JL.gskipU rfl rfl rfl rfl rfl ?_ | (refine JL.gloud rfl rfl rfl (l_callF e40 rfl rfl (same_spec E K2 K _ _ _ L.snap _ L.txs _ _ _ hB2 hBK (by (repeat (first | exact Pick.head | apply Pick.tail | apply Pick.app))) (by (repeat (first | exact Pick.head | apply Pick.tail | apply Pick.app))) hcb hLb hctb hLtb (by omega) _ hbe) ?_); rintro _ _ ⟨rfl, rfl⟩))
                    all_goals (first | refine JL.gskip rfl rfl rfl rfl rfl rfl ?_ | refine JL.gskipU rfl rfl rfl rfl rfl ?_ | refine JL.gstep rfl rfl rfl (y_not rfl) rfl rfl ?_)
                    all_goals (first | refine JL.gskip rfl rfl rfl rfl rfl rfl ?_ | refine JL.gskipU rfl rfl rfl rfl rfl ?_ | refine JL.gstep rfl rfl rfl (y_move rfl) rfl rfl ?_)
                    all_goals (first | (refine JL.gsplit_dec rfl rfl rfl (fun h => ?_) (fun h => ?_) <;> try (first | (exfalso; omega) | exact absurd rfl h)) | (refine JL.gsplit rfl rfl rfl (fun h => ?_) (fun h => ?_) <;> try (first | cases h | (exfalso; simp at h; done))) | skip)
                    all_goals (first | refine JL.gskip rfl rfl rfl rfl rfl rfl ?_ | refine JL.gskipU rfl rfl rfl rfl rfl ?_ | refine JL.gstep rfl rfl rfl (y_loadN hT rfl rfl rfl (by (first | exact RdN.rowAll (by (repeat (first | exact Pick.head | apply Pick.tail | apply Pick.app))) | exact RdN.own (by (repeat (first | exact Pick.head | apply Pick.tail | apply Pick.app))))) (by (first | rfl | assumption | (simp; done) | omega))) rfl rfl ?_)
                    all_goals (first | refine JL.gskip rfl rfl rfl rfl rfl rfl ?_ | refine JL.gskipU rfl rfl rfl rfl rfl ?_ | refine JL.gstep rfl rfl rfl (y_loadN hT rfl rfl rfl (by (first | exact RdN.rowAll (by (repeat (first | exact Pick.head | apply Pick.tail | apply Pick.app))) | exact RdN.own (by (repeat (first | exact Pick.head | apply Pick.tail | apply Pick.app))))) (by (first | rfl | assumption | (simp; done) | omega))) rfl rfl ?_)
                    all_goals (first | refine JL.gskip rfl rfl rfl rfl rfl rfl ?_ | refine JL.gskipU rfl rfl rfl rfl rfl ?_ | (refine JL.gloud rfl rfl rfl (l_callF e40 rfl rfl (same_spec E K2 K _ _ _ A.snap _ A.txs _ _ _ hB2 hBA (by (repeat (first | exact Pick.head | apply Pick.tail | apply Pick.app))) (by (repeat (first | exact Pick.head | apply Pick.tail | apply Pick.app))) hcb hAb hctb hAtb (by omega) true (hbt rfl)) ?_); rintro _ _ ⟨rfl, rfl⟩))
                    all_goals (first | refine JL.gskip rfl rfl rfl rfl rfl rfl ?_ | refine JL.gskipU rfl rfl rfl rfl rfl ?_ | refine JL.gstep rfl rfl rfl (y_not rfl) rfl rfl ?_)
                    all_goals (first | refine JL.gskip rfl rfl rfl rfl rfl rfl ?_ | refine JL.gskipU rfl rfl rfl rfl rfl ?_ | refine JL.gstep rfl rfl rfl (y_pick rfl rfl rfl) rfl rfl ?_)
                    all_goals (refine JL.step (y_pick rfl rfl rfl) rfl rfl rfl ?_)
                    all_goals refine JL.nil ?_
                  all_goals refine JE.then_normal ?_
                  all_goals
                    refine J.cond_f rfl (by (first | rfl | assumption | (simp; done) | (simp; omega))) ?_
                    refine J.skip ?_
                  all_goals refine JE.then_normal ?_
                  all_goals
                    refine J.seq ?_
                    refine J.region ?_
                    refine JL.step (y_move rfl) rfl rfl rfl ?_
                    refine JL.loud rfl (l_callF e30 rfl rfl (Fc.on (Split.cons (by (repeat (first | exact Pick.head | apply Pick.tail | apply Pick.app))) Split.nil) (again_spec E d _ hLc h64)) ?_)
                    rintro _ _ ⟨lg3, st3, rfl, rfl⟩
                    refine JL.step (y_move rfl) rfl rfl rfl (JL.step (y_extract rfl rfl) rfl rfl rfl (JL.step (y_extract rfl rfl) rfl rfl rfl (JL.step (y_assign rfl) rfl rfl rfl (JL.step (y_assign rfl) rfl rfl rfl ?_))))
                    refine JL.nil ?_
                    refine JE.then_normal ?_
                    refine J.seq ?_
                    refine J.seq ?_
                    refine J.draw _ _ [(0, .q), (1, .q), (2, .q), (3, .q), (5, .q), (4, .l), (6, .e), (7, .q), (8, .q)] mixed (by kernel_rfl) (Split.cons (Pick.head) (Split.nil)) ?_
                    refine JM.quiet rfl rfl rfl rfl (fun m => y_move rfl) ?_
                    refine JM.quiet rfl rfl rfl rfl (fun m => y_not rfl) ?_
                    refine JM.quiet rfl rfl rfl rfl (fun m => y_move rfl) ?_
                    all_goals (first | refine JM.gskip rfl rfl rfl rfl rfl rfl rfl ?_ | refine JM.gskipU rfl rfl rfl rfl rfl rfl ?_ | refine JM.gquiet rfl rfl rfl rfl rfl rfl (fun m => y_move rfl) ?_)
                    all_goals (first | refine JM.gskip rfl rfl rfl rfl rfl rfl rfl ?_ | refine JM.gskipU rfl rfl rfl rfl rfl rfl ?_ | refine JM.gquiet rfl rfl rfl rfl rfl rfl (fun m => y_loadN hT rfl rfl rfl (by (first | exact RdN.rowAll (Pick.app m (by (repeat (first | exact Pick.head | apply Pick.tail | apply Pick.app)))) | exact RdN.own (Pick.app m (by (repeat (first | exact Pick.head | apply Pick.tail | apply Pick.app)))))) (by (first | rfl | assumption | (simp; done) | omega))) ?_)
                    refine JM.gloud rfl rfl rfl rfl (fun fr => l_callF e39 rfl rfl (of_spec E lg3 st3 _ _) ?_)
                    rintro _ _ ⟨cs4, K4, rfl, hB4, rfl⟩
                    refine ⟨[_, _], (by (repeat (first | exact Split.nil | exact Split.all | refine Split.cons Pick.head ?_))), ?_⟩
                    refine JM.gearly rfl rfl rfl rfl rfl rfl (fun fr => y_callF e40 rfl (same_spec E K4 K2 cs4 _ _ _ _ _ _ _ _ hB4 hB2 (by (repeat (first | exact Pick.head | apply Pick.tail | apply Pick.app))) (by (repeat (first | exact Pick.head | apply Pick.tail | apply Pick.app))) hcb hcb hctb hctb (by omega) true (decide_eq_true ⟨rfl, rfl⟩))) ?_
                    all_goals (first | refine JM.gskip rfl rfl rfl rfl rfl rfl rfl ?_ | refine JM.gskipU rfl rfl rfl rfl rfl rfl ?_ | refine JM.gquiet rfl rfl rfl rfl rfl rfl (fun m => y_not rfl) ?_)
                    all_goals refine JM.quiet rfl rfl rfl rfl (fun m => y_pick rfl rfl rfl) ?_
                    all_goals refine JM.nil ?_
                    all_goals refine JE.then_normal ?_
                    all_goals
                      refine J.cond_f rfl (by (first | rfl | assumption | (simp; done) | (simp; omega))) ?_
                      refine J.skip ?_
                    all_goals refine JE.then_normal ?_
                    all_goals
                      refine J.seq ?_
                      refine J.seq ?_
                      obtain ⟨L3, D3, e3, eA3, hL3, hd3, hor3⟩ := hLc.put hmore
                      rcases hor3 with ⟨_, rfl, hL3e⟩ | ⟨hno, rfl, rfl, rfl⟩
                      all_goals
                        refine J.region ?_
                        refine JL.step (y_move rfl) rfl rfl rfl ?_
                        refine JL.loud rfl (l_buildSliceP (cs := ints .u8 [109, 111, 114, 101]) hT rfl rfl rfl rfl rfl rfl rfl (fill_b4 _ _ _ _ _) rfl (fun b19 => ?_))
                        refine JL.loud rfl (l_convBytes hT rfl rfl rfl rfl rfl (by (repeat (first | exact Pick.head | apply Pick.tail | apply Pick.app))) rfl ?_)
                        refine JL.loud rfl (l_callF e19 rfl rfl (Fc.on (Split.cons (by (repeat (first | exact Pick.head | apply Pick.tail | apply Pick.app))) (Split.cons (by (repeat (first | exact Pick.head | apply Pick.tail | apply Pick.app))) (Split.cons (by (repeat (first | exact Pick.head | apply Pick.tail | apply Pick.app))) Split.nil))) (append_lh E lg3 st3 d _ hLc [109, 111, 114, 101] _ _ 4 rfl hmore (by omega) eA3 (InL.ofMrow (by (repeat (first | exact Pick.head | apply Pick.tail | apply Pick.app))) (by decide)))) ?_)
                        rintro _ _ ⟨rfl, rfl⟩
                        refine JL.step (y_eql rfl rfl) rfl rfl rfl ?_
                        refine JL.nil ?_
                      all_goals refine JE.then_normal ?_
                      all_goals
                        focus
                          first | apply J.cond_dec rfl | apply J.cond rfl
                          focus
                            intro h
                            try (first | (exfalso; omega) | (cases h; done) | (exfalso; simp at h; done) | subst h)
                            all_goals
                              refine J.seq ?_
                              refine J.region ?_
                              refine JL.step (y_move rfl) rfl rfl rfl ?_
                              refine JL.loud rfl (l_callF e30 rfl rfl (Fc.on (Split.cons (by (repeat (first | exact Pick.head | apply Pick.tail | apply Pick.app))) Split.nil) (again_spec E d _ hL3 (by omega))) ?_)
                              rintro _ _ ⟨lg5, st5, rfl, rfl⟩
                              refine JL.step (y_move rfl) rfl rfl rfl (JL.step (y_extract rfl rfl) rfl rfl rfl (JL.step (y_extract rfl rfl) rfl rfl rfl (JL.step (y_assign rfl) rfl rfl rfl (JL.step (y_assign rfl) rfl rfl rfl ?_))))
                              refine JL.nil ?_
                              refine JE.then_normal ?_
                              refine J.seq ?_
                              refine J.draw _ _ [(0, .q), (1, .q), (2, .q), (5, .q), (6, .q), (7, .q), (8, .q), (3, .l), (4, .q), (9, .q), (10, .q), (11, .q)] mixed (by kernel_rfl) (Split.cons (Pick.head) (Split.nil)) ?_
                              refine JM.quiet rfl rfl rfl rfl (fun m => y_move rfl) ?_
                              refine JM.quiet rfl rfl rfl rfl (fun m => y_move rfl) ?_
                              all_goals (first | refine JM.gskip rfl rfl rfl rfl rfl rfl rfl ?_ | refine JM.gskipU rfl rfl rfl rfl rfl rfl ?_ | refine JM.gquiet rfl rfl rfl rfl rfl rfl (fun m => y_move rfl) ?_)
                              all_goals (first | refine JM.gskip rfl rfl rfl rfl rfl rfl rfl ?_ | refine JM.gskipU rfl rfl rfl rfl rfl rfl ?_ | refine JM.gquiet rfl rfl rfl rfl rfl rfl (fun m => y_fieldAddr hT rfl rfl rfl rfl rfl rfl) ?_)
                              all_goals (first | refine JM.gskip rfl rfl rfl rfl rfl rfl rfl ?_ | refine JM.gskipU rfl rfl rfl rfl rfl rfl ?_ | refine JM.gquiet rfl rfl rfl rfl rfl rfl (fun m => y_load1 hT rfl rfl rfl (by (exact Rd1.row (Pick.app m (by (repeat (first | exact Pick.head | apply Pick.tail | apply Pick.app)))) (by rfl)))) ?_)
                              all_goals (first | refine JM.gskip rfl rfl rfl rfl rfl rfl rfl ?_ | refine JM.gskipU rfl rfl rfl rfl rfl rfl ?_ | refine JM.gquiet rfl rfl rfl rfl rfl rfl (fun m => y_len_slice hT rfl rfl rfl) ?_)
                              all_goals (first | refine JM.gskip rfl rfl rfl rfl rfl rfl rfl ?_ | refine JM.gskipU rfl rfl rfl rfl rfl rfl ?_ | refine JM.gquiet rfl rfl rfl rfl rfl rfl (fun m => y_add rfl rfl (by (first | exact wrap_i64 (by omega) (by omega) | rfl))) ?_)
                              refine JM.gloud rfl rfl rfl rfl (fun fr => l_callF e24 rfl rfl (ltxs_len1 E lg5 st5 L3 (A.txs.length + 1) _ (by rw [hL3e]; simp)) ?_)
                              rintro _ _ ⟨ua, uc, K5, rfl, rfl⟩
                              refine ⟨[_, _], (by (repeat (first | exact Split.nil | exact Split.all | refine Split.cons Pick.head ?_))), ?_⟩
                              all_goals (first | refine JM.gskip rfl rfl rfl rfl rfl rfl rfl ?_ | refine JM.gskipU rfl rfl rfl rfl rfl rfl ?_ | refine JM.gquiet rfl rfl rfl rfl rfl rfl (fun m => y_len_slice hT rfl rfl rfl) ?_)
                              all_goals (first | refine JM.gskip rfl rfl rfl rfl rfl rfl rfl ?_ | refine JM.gskipU rfl rfl rfl rfl rfl rfl ?_ | refine JM.gquiet rfl rfl rfl rfl rfl rfl (fun m => y_eql rfl rfl) ?_)
                              all_goals refine JM.quiet rfl rfl rfl rfl (fun m => y_pick rfl rfl rfl) ?_
                              all_goals refine JM.quiet rfl rfl rfl rfl (fun m => y_assign rfl) ?_
                              all_goals refine JM.nil ?_
                              all_goals refine JE.then_normal ?_
                              all_goals
                                refine J.ret ?_
                                refine JE.then_ret ?_
                                refine JE.ret1 (.inl rfl) rfl rfl (by (first | exact RV.tmp rfl | exact RV.cell1 hT rfl rfl rfl (by (exact Rd1.row (by (repeat (first | exact Pick.head | apply Pick.tail | apply Pick.app))) (by rfl))) | exact RV.cellN hT rfl rfl rfl (by (first | exact RdN.rowAll (by (repeat (first | exact Pick.head | apply Pick.tail | apply Pick.app))) | exact RdN.own (by (repeat (first | exact Pick.head | apply Pick.tail | apply Pick.app))))) (by (first | rfl | assumption | (simp; done) | omega)))) ?_
                                refine ⟨by first | rfl | (simp; done), fun w q => ?_⟩
                                exact (Sat.keptR (A := stars [KA, K1]) (B := K0) (by rw [← hK] at q; exact q) (by (repeat (first | exact Pick.head | apply Pick.tail | apply Pick.app)))).sup (by (repeat (first | exact Sup.refl | apply Sup.cons (by (repeat (first | exact Pick.head | apply Pick.tail | apply Pick.app))) | apply Sup.app | apply Sup.skip | apply Sup.skips)))
                          rotate_right 1
                          focus
                            intro h
                            try (first | (exfalso; omega) | (cases h; done) | (exfalso; simp at h; done) | subst h)
                            all_goals
                              refine J.skip ?_
                      all_goals refine JE.then_normal ?_
                      all_goals
                        refine J.seq ?_
                        refine J.region ?_
                        refine JL.step (y_move rfl) rfl rfl rfl ?_
                        refine JL.loud rfl (l_callF e16 rfl rfl (Fc.on (Split.cons (by (repeat (first | exact Pick.head | apply Pick.tail | apply Pick.app))) (Split.cons (by (repeat (first | exact Pick.head | apply Pick.tail | apply Pick.app))) (Split.cons (by (repeat (first | exact Pick.head | apply Pick.tail | apply Pick.app))) Split.nil))) (room_no E lg3 st3 d hLc 4 (by decide) hno _)) ?_)
                        rintro _ _ ⟨rfl, rfl⟩
                        refine JL.step (y_not rfl) rfl rfl rfl (JL.step (y_assign rfl) rfl rfl rfl ?_)
                        refine JL.nil ?_
                        refine JE.then_normal ?_
                        refine J.ret ?_
                        refine JE.ret1 (.inl rfl) rfl rfl (by (first | exact RV.tmp rfl | exact RV.cell1 hT rfl rfl rfl (by (exact Rd1.row (by (repeat (first | exact Pick.head | apply Pick.tail | apply Pick.app))) (by rfl))) | exact RV.cellN hT rfl rfl rfl (by (first | exact RdN.rowAll (by (repeat (first | exact Pick.head | apply Pick.tail | apply Pick.app))) | exact RdN.own (by (repeat (first | exact Pick.head | apply Pick.tail | apply Pick.app))))) (by (first | rfl | assumption | (simp; done) | omega)))) ?_
                        refine ⟨by first | rfl | (simp; done), fun w q => ?_⟩
                        exact (Sat.keptR (A := stars [KA, K1]) (B := K0) (by rw [← hK] at q; exact q) (by (repeat (first | exact Pick.head | apply Pick.tail | apply Pick.app)))).sup (by (repeat (first | exact Sup.refl | apply Sup.cons (by (repeat (first | exact Pick.head | apply Pick.tail | apply Pick.app))) | apply Sup.app | apply Sup.skip | apply Sup.skips)))
          ·
            skip
            refine J.seq ?_
            refine J.region ?_
            refine JL.step (y_assign rfl) rfl rfl rfl ?_
            refine JL.nil ?_
            refine JE.then_normal ?_
            refine J.seq ?_
            refine J.seq ?_
            refine J.region ?_
            refine JL.step (y_loadN hT rfl rfl rfl (by (first | exact RdN.rowAll (by (repeat (first | exact Pick.head | apply Pick.tail | apply Pick.app))) | exact RdN.own (by (repeat (first | exact Pick.head | apply Pick.tail | apply Pick.app))))) (by (first | rfl | assumption | (simp; done) | omega))) rfl rfl rfl ?_
            refine JL.loud rfl (l_callF e33 rfl rfl (kind12_spec E o _) ?_)
            rintro _ _ ⟨rfl, rfl⟩
            refine JL.step (y_eql rfl rfl) rfl rfl rfl ?_
            refine JL.nil ?_
            refine JE.then_normal ?_
            refine J.cond_t rfl (by (first | rfl | assumption | (simp; done) | (simp; omega))) ?_
            refine J.region ?_
            refine JL.step (y_move rfl) rfl rfl rfl ?_
            refine JL.step (y_loadN hT rfl rfl rfl (by (first | exact RdN.rowAll (by (repeat (first | exact Pick.head | apply Pick.tail | apply Pick.app))) | exact RdN.own (by (repeat (first | exact Pick.head | apply Pick.tail | apply Pick.app))))) (by (first | rfl | assumption | (simp; done) | omega))) rfl rfl rfl ?_
            refine JL.loud rfl (l_callF e32 rfl rfl (cbytes _) ?_)
            rintro _ _ ⟨rfl, rfl⟩
            refine JL.loud rfl (l_callF e18 rfl rfl (Fc.on (Split.cons (by (repeat (first | exact Pick.head | apply Pick.tail | apply Pick.app))) (Split.cons (by (repeat (first | exact Pick.head | apply Pick.tail | apply Pick.app))) (Split.cons (by (repeat (first | exact Pick.head | apply Pick.tail | apply Pick.app))) Split.nil))) (check_arm E lg st d _ hL k b bp bc b.length rfl hsm eR (hbin.kept (by (repeat (first | exact Pick.head | apply Pick.tail | apply Pick.app)))))) ?_)
            rintro _ _ ⟨rfl, rfl⟩
            refine JL.step (y_assign rfl) rfl rfl rfl ?_
            refine JL.nil ?_
            refine JE.then_normal ?_
            refine J.seq ?_
            refine J.seq ?_
            refine J.region ?_
            refine JL.step (y_move rfl) rfl rfl rfl (JL.step (y_neq rfl rfl) rfl rfl rfl (JL.step (y_move rfl) rfl rfl rfl ?_))
            all_goals (first | (refine JL.gsplit_dec rfl rfl rfl (fun h => ?_) (fun h => ?_) <;> try (first | (exfalso; omega) | exact absurd rfl h)) | (refine JL.gsplit rfl rfl rfl (fun h => ?_) (fun h => ?_) <;> try (first | cases h | (exfalso; simp at h; done))) | skip)
            all_goals (first | refine JL.gskip rfl rfl rfl rfl rfl rfl ?_ | refine JL.gskipU rfl rfl rfl rfl rfl ?_ | refine JL.gstep rfl rfl rfl (y_move rfl) rfl rfl ?_)
            all_goals (first | refine JL.gskip rfl rfl rfl rfl rfl rfl ?_ | refine JL.gskipU rfl rfl rfl rfl rfl ?_ | refine JL.gstep rfl rfl rfl (y_neq rfl rfl) rfl rfl ?_)
            all_goals (refine JL.step (y_pick rfl rfl rfl) rfl rfl rfl ?_)
            all_goals refine JL.nil ?_
            all_goals refine JE.then_normal ?_
            all_goals
              refine J.cond_t rfl (by (first | rfl | assumption | (simp; done) | (simp; omega))) ?_
              refine J.seq ?_
              refine J.draw _ _ [(0, .q), (1, .q), (2, .q), (3, .q), (4, .q), (5, .q), (6, .q), (7, .q), (9, .q), (8, .l), (10, .e), (11, .q), (12, .q)] mixed (by kernel_rfl) (Split.cons (Pick.head) (Split.nil)) ?_
              refine JM.quiet rfl rfl rfl rfl (fun m => y_move rfl) ?_
              refine JM.quiet rfl rfl rfl rfl (fun m => y_eql rfl rfl) ?_
              refine JM.quiet rfl rfl rfl rfl (fun m => y_move rfl) ?_
              all_goals (first | refine JM.gskip rfl rfl rfl rfl rfl rfl rfl ?_ | refine JM.gskipU rfl rfl rfl rfl rfl rfl ?_ | refine JM.gquiet rfl rfl rfl rfl rfl rfl (fun m => y_move rfl) ?_)
              all_goals (first | refine JM.gskip rfl rfl rfl rfl rfl rfl rfl ?_ | refine JM.gskipU rfl rfl rfl rfl rfl rfl ?_ | refine JM.gquiet rfl rfl rfl rfl rfl rfl (fun m => y_eql rfl rfl) ?_)
              all_goals refine JM.quiet rfl rfl rfl rfl (fun m => y_pick rfl rfl rfl) ?_
              all_goals refine JM.quiet rfl rfl rfl rfl (fun m => y_move rfl) ?_
              all_goals (first | refine JM.gskip rfl rfl rfl rfl rfl rfl rfl ?_ | refine JM.gskipU rfl rfl rfl rfl rfl rfl ?_ | refine JM.gquiet rfl rfl rfl rfl rfl rfl (fun m => y_move rfl) ?_)
              all_goals (first | refine JM.gskip rfl rfl rfl rfl rfl rfl rfl ?_ | refine JM.gskipU rfl rfl rfl rfl rfl rfl ?_ | refine JM.gquiet rfl rfl rfl rfl rfl rfl (fun m => y_loadN hT rfl rfl rfl (by (first | exact RdN.rowAll (Pick.app m (by (repeat (first | exact Pick.head | apply Pick.tail | apply Pick.app)))) | exact RdN.own (Pick.app m (by (repeat (first | exact Pick.head | apply Pick.tail | apply Pick.app)))))) (by (first | rfl | assumption | (simp; done) | omega))) ?_)
              refine JM.gloud rfl rfl rfl rfl (fun fr => l_callF e39 rfl rfl (of_spec E lg st L _) ?_)
              rintro _ _ ⟨cs2, K2, rfl, hB2, rfl⟩
              refine ⟨[_, _], (by (repeat (first | exact Split.nil | exact Split.all | refine Split.cons Pick.head ?_))), ?_⟩
              refine JM.gearly rfl rfl rfl rfl rfl rfl (fun fr => y_callF e40 rfl (same_spec E K2 K1 cs2 _ L.snap L.snap L.txs L.txs _ _ _ hB2 hB1 (by (repeat (first | exact Pick.head | apply Pick.tail | apply Pick.app))) (by (repeat (first | exact Pick.head | apply Pick.tail | apply Pick.app))) hLb hLb hLtb hLtb (by omega) true (by simp))) ?_
              all_goals refine JM.quiet rfl rfl rfl rfl (fun m => y_pick rfl rfl rfl) ?_
              all_goals refine JM.quiet rfl rfl rfl rfl (fun m => y_assign rfl) ?_
              all_goals refine JM.nil ?_
              all_goals refine JE.then_normal ?_
              all_goals
                refine J.ret ?_
                refine JE.then_ret ?_
                refine JE.ret1 (.inl rfl) rfl rfl (by (first | exact RV.tmp rfl | exact RV.cell1 hT rfl rfl rfl (by (exact Rd1.row (by (repeat (first | exact Pick.head | apply Pick.tail | apply Pick.app))) (by rfl))) | exact RV.cellN hT rfl rfl rfl (by (first | exact RdN.rowAll (by (repeat (first | exact Pick.head | apply Pick.tail | apply Pick.app))) | exact RdN.own (by (repeat (first | exact Pick.head | apply Pick.tail | apply Pick.app))))) (by (first | rfl | assumption | (simp; done) | omega)))) ?_
                exact ⟨rfl, fun w q => q.sup (by (repeat (first | exact Sup.refl | apply Sup.cons (by (repeat (first | exact Pick.head | apply Pick.tail | apply Pick.app))) | apply Sup.app | apply Sup.skip | apply Sup.skips)))⟩
          ·
            have hf : L2.txs.length ≤ 31 := by rcases hor with rfl | rfl <;> omega
            have h64 : 64 ≤ (X.crash keep).safe.length := by rw [crash_len]; omega
            refine J.seq ?_
            refine J.region ?_
            refine JL.step (y_assign rfl) rfl rfl rfl ?_
            refine JL.nil ?_
            refine JE.then_normal ?_
            refine J.seq ?_
            refine J.seq ?_
            refine J.region ?_
            refine JL.step (y_loadN hT rfl rfl rfl (by (first | exact RdN.rowAll (by (repeat (first | exact Pick.head | apply Pick.tail | apply Pick.app))) | exact RdN.own (by (repeat (first | exact Pick.head | apply Pick.tail | apply Pick.app))))) (by (first | rfl | assumption | (simp; done) | omega))) rfl rfl rfl ?_
            refine JL.loud rfl (l_callF e33 rfl rfl (kind12_spec E o _) ?_)
            rintro _ _ ⟨rfl, rfl⟩
            refine JL.step (y_eql rfl rfl) rfl rfl rfl ?_
            refine JL.nil ?_
            refine JE.then_normal ?_
            refine J.cond_t rfl (by (first | rfl | assumption | (simp; done) | (simp; omega))) ?_
            refine J.region ?_
            refine JL.step (y_move rfl) rfl rfl rfl ?_
            refine JL.step (y_loadN hT rfl rfl rfl (by (first | exact RdN.rowAll (by (repeat (first | exact Pick.head | apply Pick.tail | apply Pick.app))) | exact RdN.own (by (repeat (first | exact Pick.head | apply Pick.tail | apply Pick.app))))) (by (first | rfl | assumption | (simp; done) | omega))) rfl rfl rfl ?_
            refine JL.loud rfl (l_callF e32 rfl rfl (cbytes _) ?_)
            rintro _ _ ⟨rfl, rfl⟩
            refine JL.loud rfl (l_callF e18 rfl rfl (Fc.on (Split.cons (by (repeat (first | exact Pick.head | apply Pick.tail | apply Pick.app))) (Split.cons (by (repeat (first | exact Pick.head | apply Pick.tail | apply Pick.app))) (Split.cons (by (repeat (first | exact Pick.head | apply Pick.tail | apply Pick.app))) Split.nil))) (check_arm E lg st d _ hL k b bp bc b.length rfl hsm eR (hbin.kept (by (repeat (first | exact Pick.head | apply Pick.tail | apply Pick.app)))))) ?_)
            rintro _ _ ⟨rfl, rfl⟩
            refine JL.step (y_assign rfl) rfl rfl rfl ?_
            refine JL.nil ?_
            refine JE.then_normal ?_
            refine J.seq ?_
            refine J.seq ?_
            refine J.region ?_
            refine JL.step (y_move rfl) rfl rfl rfl (JL.step (y_neq rfl rfl) rfl rfl rfl (JL.step (y_move rfl) rfl rfl rfl ?_))
            all_goals (first | (refine JL.gsplit_dec rfl rfl rfl (fun h => ?_) (fun h => ?_) <;> try (first | (exfalso; omega) | exact absurd rfl h)) | (refine JL.gsplit rfl rfl rfl (fun h => ?_) (fun h => ?_) <;> try (first | cases h | (exfalso; simp at h; done))) | skip)
            all_goals (first | refine JL.gskip rfl rfl rfl rfl rfl rfl ?_ | refine JL.gskipU rfl rfl rfl rfl rfl ?_ | refine JL.gstep rfl rfl rfl (y_move rfl) rfl rfl ?_)
            all_goals (first | refine JL.gskip rfl rfl rfl rfl rfl rfl ?_ | refine JL.gskipU rfl rfl rfl rfl rfl ?_ | refine JL.gstep rfl rfl rfl (y_neq rfl rfl) rfl rfl ?_)
            all_goals (refine JL.step (y_pick rfl rfl rfl) rfl rfl rfl ?_)
            all_goals refine JL.nil ?_
            all_goals refine JE.then_normal ?_
            all_goals
              refine J.cond_f rfl (by (first | rfl | assumption | (simp; done) | (simp; omega))) ?_
              refine J.skip ?_
            all_goals refine JE.then_normal ?_
            all_goals
              refine J.seq ?_
              refine J.draw _ _ [(0, .q), (1, .q), (3, .q), (4, .q), (6, .q), (2, .n), (5, .l), (7, .q), (8, .n), (9, .l), (10, .q), (11, .n), (12, .l)] mixed (by kernel_rfl) (Split.nil) ?_
              refine JM.quiet rfl rfl rfl rfl (fun m => y_fieldAddr hT rfl rfl rfl rfl rfl rfl) ?_
              refine JM.quiet rfl rfl rfl rfl (fun m => y_load1 hT rfl rfl rfl (by (exact Rd1.row (Pick.app m (by (repeat (first | exact Pick.head | apply Pick.tail | apply Pick.app)))) (by rfl)))) ?_
              refine JM.quiet rfl rfl rfl rfl (fun m => y_fieldAddr hT rfl rfl rfl rfl rfl rfl) ?_
              refine JM.quiet rfl rfl rfl rfl (fun m => y_load1 hT rfl rfl rfl (by (exact Rd1.row (Pick.app m (by (repeat (first | exact Pick.head | apply Pick.tail | apply Pick.app)))) (by rfl)))) ?_
              refine JM.quiet rfl rfl rfl rfl (fun m => y_loadN hT rfl rfl rfl (by (first | exact RdN.rowAll (Pick.app m (by (repeat (first | exact Pick.head | apply Pick.tail | apply Pick.app)))) | exact RdN.own (Pick.app m (by (repeat (first | exact Pick.head | apply Pick.tail | apply Pick.app)))))) (by (first | rfl | assumption | (simp; done) | omega))) ?_
              refine JM.lay rfl rfl rfl rfl (fun a hf => lays_buildSlice0 hT rfl rfl rfl) (fun b11 => ?_)
              refine JM.loud rfl rfl (fun fr => LS.pre (fun w s => Sat.own_zero (size := 1) (s.pick (by (repeat (first | exact Pick.head | apply Pick.tail | apply Pick.app))))) (l_appendIn (nn := 0) (m := L.txs.length) hT rfl rfl rfl rfl rfl rfl rfl rfl Pick.head (hq1.kept (by (repeat (first | exact Pick.head | apply Pick.tail | apply Pick.app)))) (by rw [show i36.size = 1 from rfl, hv1, Nat.mul_one]) hv1o (by rw [show i36.bytes = 24 from rfl]; omega) (by omega) rfl (fun a1 a1c ha1 => ⟨[_], (by (repeat (first | exact Split.nil | exact Split.all | refine Split.cons Pick.head ?_))), ?_⟩)))
              rw [Nat.zero_add L.txs.length, List.nil_append v1]
              refine JM.quiet rfl rfl rfl rfl (fun m => y_callF e32 rfl (cbytes _)) ?_
              refine JM.lay rfl rfl rfl rfl (fun a hf => lays_buildSlice hT rfl rfl rfl rfl hf rfl rfl rfl (by (first | exact fill_one rfl (by first | assumption | rfl | (simp; done)) | rfl | simp))) (fun b12 => ?_)
              refine JM.loud rfl rfl (fun fr => l_appendIn (nn := L.txs.length) (m := 1) hT rfl rfl rfl rfl rfl rfl rfl rfl (by (repeat (first | exact Pick.head | apply Pick.tail | apply Pick.app))) (InL.ofRow (cs := [.slice bp b.length bc]) (by (repeat (first | exact Pick.head | apply Pick.tail | apply Pick.app))) (by decide)) (by rfl) (ones_of rfl) (by rw [show i36.bytes = 24 from rfl]; omega) (by omega) rfl (fun a2 a2c ha2 => ⟨[_, _], (by (repeat (first | exact Split.nil | exact Split.all | refine Split.cons Pick.head ?_))), ?_⟩))
              refine JM.quiet rfl rfl rfl rfl (fun m => y_build (cs := [_, _]) hT rfl rfl rfl rfl rfl rfl ⟨⟨(by (first | rfl | assumption | (simp; done) | omega)), Nat.le_of_ble_eq_true rfl⟩, ⟨⟨(by (first | rfl | assumption | (simp; done) | omega)), Nat.le_of_ble_eq_true rfl⟩, trivial⟩⟩ rfl) ?_
              refine JM.lay rfl rfl rfl rfl (fun a hf => lays_alloc hT rfl rfl (by (first | rfl | simp))) (fun b15 => ?_)
              refine JM.loud rfl rfl (fun fr => l_storeAll hT rfl rfl rfl (by (first | rfl | assumption | (simp; done) | omega)) (by (first | assumption | exact ones_of rfl | exact encW_one _ | exact encB_one _ | (intro u hu; simp at hu; rcases hu with rfl | rfl <;> rfl) | (intro u hu; simp at hu; subst hu; rfl) | simp)) (by (repeat (first | exact Pick.head | apply Pick.tail | apply Pick.app))) (by (first | rfl | assumption | (simp; done) | omega)) (⟨[_, _, _], (by (repeat (first | exact Split.nil | exact Split.all | refine Split.cons Pick.head ?_))), ?_⟩))
              refine JM.nil ?_
              refine JE.then_normal ?_
              refine J.seq ?_
              refine J.seq ?_
              refine J.fact (p := OwnAt a2 (L.txs.length + 1) a2c (v1 ++ [.slice bp b.length bc])) (fun w s => Sat.own_at (s.pick (by (repeat (first | exact Pick.head | apply Pick.tail | apply Pick.app))))) fun oa2 => ?_
              obtain ⟨KA, hKA⟩ : ∃ K, own 36 1 (.slice a2 (L.txs.length + 1) a2c) (L.txs.length + 1) (v1 ++ [.slice bp b.length bc]) = K := ⟨_, rfl⟩
              have oin := oa2.inl (l := [own 36 1 (.slice a2 (L.txs.length + 1) a2c) (L.txs.length + 1) (v1 ++ [.slice bp b.length bc])]) Pick.head
              obtain ⟨K, hK⟩ : ∃ K, stars [stars [KA, K1], K0] = K := ⟨_, rfl⟩
              refine J.lists (fun w q => show Sat E (stars (logm lg st La :: K :: row st 90 (scells S d) :: disk d X :: row b15 74 [.slice p1 L.snap.length c1, .slice a2 (L.txs.length + 1) a2c] :: row b4 61 (opE o) :: row b5 72 [.int .i64 at_, .slice kp keep.length kc] :: row b13 74 [.slice p1 L.snap.length c1, .slice q1 L.txs.length d1] :: [])) w from by rw [← hK, ← hKA]; exact (Sat.fold (m := [stars [_, K1], K0]) (Sat.fold (m := [_, K1]) (q.sup (p := own 36 1 (.slice a2 (L.txs.length + 1) a2c) (L.txs.length + 1) (v1 ++ [.slice bp b.length bc]) :: K1 :: K0 :: logm lg st La :: row st 90 (scells S d) :: disk d X :: row b15 74 [.slice p1 L.snap.length c1, .slice a2 (L.txs.length + 1) a2c] :: row b4 61 (opE o) :: row b5 72 [.int .i64 at_, .slice kp keep.length kc] :: row b13 74 [.slice p1 L.snap.length c1, .slice q1 L.txs.length d1] :: []) (by (repeat (first | exact Sup.refl | apply Sup.cons (by (repeat (first | exact Pick.head | apply Pick.tail | apply Pick.app))) | apply Sup.app | apply Sup.skip | apply Sup.skips)))))).pick (Pick.tail Pick.head)) ?_
              have hinkK : InL [K] kp keep.length kc (keep.map Value.bool) := by rw [← hK]; exact hink.keepR
              have hbinK : InL [K] bp b.length bc (ints .u8 b) := by rw [← hK]; exact hbin.keepR
              have hBK : StB K [.slice p1 L.snap.length c1, .slice q1 L.txs.length d1] L.snap L.txs := by rw [← hK]; exact hB1.keepR.keepL
              have hBN : StB K [.slice p1 L.snap.length c1, .slice a2 (L.txs.length + 1) a2c] L.snap (L.txs ++ [b]) := by
                rw [← hK, ← hKA]
                exact ⟨p1, c1, a2, a2c, v1 ++ [.slice bp b.length bc], by simp, hs1.keepR.keepL, by rw [List.length_append]; exact oin.keepL.keepL, hx1.keepR.keepL.put hbin.keepR⟩
              refine J.region ?_
              refine JL.step (y_loadN hT rfl rfl rfl (by (first | exact RdN.rowAll (by (repeat (first | exact Pick.head | apply Pick.tail | apply Pick.app))) | exact RdN.own (by (repeat (first | exact Pick.head | apply Pick.tail | apply Pick.app))))) (by (first | rfl | assumption | (simp; done) | omega))) rfl rfl rfl ?_
              refine JL.loud rfl (l_callF e33 rfl rfl (kind12_spec E o _) ?_)
              rintro _ _ ⟨rfl, rfl⟩
              refine JL.step (y_eql rfl rfl) rfl rfl rfl ?_
              refine JL.nil ?_
              refine JE.then_normal ?_
              refine J.cond_t rfl (by (first | rfl | assumption | (simp; done) | (simp; omega))) ?_
              refine J.region ?_
              refine JL.step (y_loadN hT rfl rfl rfl (by (first | exact RdN.rowAll (by (repeat (first | exact Pick.head | apply Pick.tail | apply Pick.app))) | exact RdN.own (by (repeat (first | exact Pick.head | apply Pick.tail | apply Pick.app))))) (by (first | rfl | assumption | (simp; done) | omega))) rfl rfl rfl ?_
              refine JL.loud rfl (l_callF e32 rfl rfl (cbytes _) ?_)
              rintro _ _ ⟨rfl, rfl⟩
              refine JL.step (y_build (cs := [_, _]) hT rfl rfl rfl rfl rfl rfl ⟨⟨(by (first | rfl | assumption | (simp; done) | omega)), Nat.le_of_ble_eq_true rfl⟩, ⟨⟨(by (first | rfl | assumption | (simp; done) | omega)), Nat.le_of_ble_eq_true rfl⟩, trivial⟩⟩ rfl) rfl rfl rfl ?_
              refine JL.loud rfl (l_storeAll hT rfl rfl rfl (by (first | rfl | assumption | (simp; done) | omega)) (by (first | assumption | exact ones_of rfl | exact encW_one _ | exact encB_one _ | (intro u hu; simp at hu; rcases hu with rfl | rfl <;> rfl) | (intro u hu; simp at hu; subst hu; rfl) | simp)) (by (repeat (first | exact Pick.head | apply Pick.tail | apply Pick.app))) (by (first | rfl | assumption | (simp; done) | omega)) ?_)
              refine JL.nil ?_
              refine JE.then_normal ?_
              refine J.seq ?_
              refine J.seq ?_
              have hBA : StB K [.slice bp b.length bc, .slice none 0 0] A.snap A.txs := by rw [hAs, hAt]; exact ⟨bp, bc, none, 0, [], rfl, hbinK, InL.none12, TxB.none K⟩
              first
                | (have zz := hLa
                   refine J.draw _ _ [(0, .q), (1, .q), (2, .q), (3, .q), (5, .q), (4, .q), (6, .q), (7, .q), (8, .q)] mixed (by kernel_rfl) (Split.nil) ?_)
                | refine J.draw _ _ [(0, .q), (1, .q), (2, .q), (3, .q), (5, .q), (4, .l), (6, .q), (7, .q), (8, .q)] mixed (by kernel_rfl) (Split.nil) ?_
              refine JM.quiet rfl rfl rfl rfl (fun m => y_move rfl) ?_
              refine JM.quiet rfl rfl rfl rfl (fun m => y_eql rfl rfl) ?_
              refine JM.quiet rfl rfl rfl rfl (fun m => y_move rfl) ?_
              all_goals (first | refine JM.gskip rfl rfl rfl rfl rfl rfl rfl ?_ | refine JM.gskipU rfl rfl rfl rfl rfl rfl ?_ | refine JM.gquiet rfl rfl rfl rfl rfl rfl (fun m => y_move rfl) ?_)
              all_goals (first | refine JM.gskip rfl rfl rfl rfl rfl rfl rfl ?_ | refine JM.gskipU rfl rfl rfl rfl rfl rfl ?_ | refine JM.gquiet rfl rfl rfl rfl rfl rfl (fun m => y_loadN hT rfl rfl rfl (by (first | exact RdN.rowAll (Pick.app m (by (repeat (first | exact Pick.head | apply Pick.tail | apply Pick.app)))) | exact RdN.own (Pick.app m (by (repeat (first | exact Pick.head | apply Pick.tail | apply Pick.app)))))) (by (first | rfl | assumption | (simp; done) | omega))) ?_)
              first | refine JM.gskip rfl rfl rfl rfl rfl rfl rfl ?_ | refine JM.gskipU rfl rfl rfl rfl rfl rfl ?_ | (refine JM.gloud rfl rfl rfl rfl (fun fr => l_callF e39 rfl rfl (of_spec E lg st A _) ?_); rintro _ _ ⟨cs3, K3, rfl, hB3, rfl⟩; refine ⟨[], (by (repeat (first | exact Split.nil | exact Split.all | refine Split.cons Pick.head ?_))), ?_⟩)
              all_goals (first | refine JM.gskip rfl rfl rfl rfl rfl rfl rfl ?_ | refine JM.gskipU rfl rfl rfl rfl rfl rfl ?_ | refine JM.gquiet rfl rfl rfl rfl rfl rfl (fun m => y_callF e40 rfl (same_spec E K3 K cs3 _ A.snap A.snap A.txs A.txs _ _ _ hB3 hBA (Pick.app m (by (repeat (first | exact Pick.head | apply Pick.tail | apply Pick.app)))) (Pick.app m (by (repeat (first | exact Pick.head | apply Pick.tail | apply Pick.app)))) hAb hAb hAtb hAtb (by omega) true (by simp))) ?_)
              all_goals (first | refine JM.gskip rfl rfl rfl rfl rfl rfl rfl ?_ | refine JM.gskipU rfl rfl rfl rfl rfl rfl ?_ | refine JM.gquiet rfl rfl rfl rfl rfl rfl (fun m => y_not rfl) ?_)
              all_goals refine JM.quiet rfl rfl rfl rfl (fun m => y_pick rfl rfl rfl) ?_
              all_goals refine JM.nil ?_
              all_goals refine JE.then_normal ?_
              all_goals
                refine J.cond_f rfl (by (first | rfl | assumption | (simp; done) | (simp; omega))) ?_
                refine J.skip ?_
              all_goals refine JE.then_normal ?_
              all_goals
                refine J.seq ?_
                refine J.seq ?_
                refine J.region ?_
                refine JL.step (y_move rfl) rfl rfl rfl ?_
                refine JL.loud rfl (l_buildSlice0 hT rfl rfl rfl rfl (fun b18 => ?_))
                refine JL.step (y_fieldAddr hT rfl rfl rfl rfl rfl rfl) rfl rfl rfl ?_
                refine JL.step (y_load1 hT rfl rfl rfl (by (exact Rd1.row (by (repeat (first | exact Pick.head | apply Pick.tail | apply Pick.app))) (by rfl)))) rfl rfl rfl ?_
                refine JL.loud rfl (l_appendIn hT rfl rfl rfl rfl rfl rfl rfl rfl (by (repeat (first | exact Pick.head | apply Pick.tail | apply Pick.app))) (hinkK.kept (by (repeat (first | exact Pick.head | apply Pick.tail | apply Pick.app)))) (by rw [show i4.size = 1 from rfl]; simp) (by intro u hu; simp only [List.mem_map] at hu; obtain ⟨z, _, rfl⟩ := hu; rfl) (by rw [show i4.bytes = 1 from rfl]; omega) (by omega) rfl (fun ka kc' hc' => ?_))
                rw [Nat.zero_add keep.length, List.nil_append (keep.map Value.bool)]
                refine JL.loud rfl (l_callF e29 rfl rfl (Fc.fact (p := OwnAt ka keep.length kc' (keep.map Value.bool)) (fun w s => Sat.own_at (s.pick (by (repeat (first | exact Pick.head | apply Pick.tail | apply Pick.app))))) fun ok => Fc.on (Split.cons (by (repeat (first | exact Pick.head | apply Pick.tail | apply Pick.app))) Split.nil) (crash_spec E d X _ _ keep _ (ok.inl (by (repeat (first | exact Pick.head | apply Pick.tail | apply Pick.app)))) (by omega))) ?_)
                rintro _ _ ⟨rfl, rfl⟩
                refine JL.step (y_neq rfl rfl) rfl rfl rfl ?_
                refine JL.nil ?_
                refine JE.then_normal ?_
                refine J.cond_f rfl (by (first | rfl | assumption | (simp; done) | (simp; omega))) ?_
                refine J.skip ?_
                refine JE.then_normal ?_
                refine J.seq ?_
                refine J.seq ?_
                subst hLa
                refine J.region ?_
                refine JL.step (y_move rfl) rfl rfl rfl (JL.step (y_eql rfl rfl) rfl rfl rfl (JL.step (y_move rfl) rfl rfl rfl ?_))
                all_goals (first | (refine JL.gsplit_dec rfl rfl rfl (fun h => ?_) (fun h => ?_) <;> try (first | (exfalso; omega) | exact absurd rfl h)) | (refine JL.gsplit rfl rfl rfl (fun h => ?_) (fun h => ?_) <;> try (first | cases h | (exfalso; simp at h; done))) | skip)
                all_goals (first | refine JL.gskip rfl rfl rfl rfl rfl rfl ?_ | refine JL.gskipU rfl rfl rfl rfl rfl ?_ | refine JL.gstep rfl rfl rfl (y_move rfl) rfl rfl ?_)
                all_goals (first | refine JL.gskip rfl rfl rfl rfl rfl rfl ?_ | refine JL.gskipU rfl rfl rfl rfl rfl ?_ | (refine JL.gloud rfl rfl rfl (l_callF e19 rfl rfl (Fc.on (Split.cons (by (repeat (first | exact Pick.head | apply Pick.tail | apply Pick.app))) (Split.cons (by (repeat (first | exact Pick.head | apply Pick.tail | apply Pick.app))) (Split.cons (by (repeat (first | exact Pick.head | apply Pick.tail | apply Pick.app))) Split.nil))) (append_broken E lg st d _ hhash (by omega) (Nat.zero_le _) (by omega))) ?_); rintro _ _ ⟨rfl, rfl⟩))
                all_goals (first | refine JL.gskip rfl rfl rfl rfl rfl rfl ?_ | refine JL.gskipU rfl rfl rfl rfl rfl ?_ | refine JL.gstep rfl rfl rfl (y_neq rfl rfl) rfl rfl ?_)
                all_goals (first | refine JL.gskip rfl rfl rfl rfl rfl rfl ?_ | refine JL.gskipU rfl rfl rfl rfl rfl ?_ | refine JL.gstep rfl rfl rfl (y_move rfl) rfl rfl ?_)
                all_goals (first | (refine JL.gsplit_dec rfl rfl rfl (fun h => ?_) (fun h => ?_) <;> try (first | (exfalso; omega) | exact absurd rfl h)) | (refine JL.gsplit rfl rfl rfl (fun h => ?_) (fun h => ?_) <;> try (first | cases h | (exfalso; simp at h; done))) | skip)
                all_goals (first | refine JL.gskip rfl rfl rfl rfl rfl rfl ?_ | refine JL.gskipU rfl rfl rfl rfl rfl ?_ | refine JL.gstep rfl rfl rfl (y_move rfl) rfl rfl ?_)
                all_goals (first | refine JL.gskip rfl rfl rfl rfl rfl rfl ?_ | refine JL.gskipU rfl rfl rfl rfl rfl ?_ | (refine JL.gloud rfl rfl rfl (l_callF e18 rfl rfl (Fc.on (Split.cons (by (repeat (first | exact Pick.head | apply Pick.tail | apply Pick.app))) (Split.cons (by (repeat (first | exact Pick.head | apply Pick.tail | apply Pick.app))) (Split.cons (by (repeat (first | exact Pick.head | apply Pick.tail | apply Pick.app))) Split.nil))) (check_broken E lg st d _ hhash (by omega) hplace (Nat.zero_le _))) ?_); rintro _ _ ⟨rfl, rfl⟩))
                all_goals (first | refine JL.gskip rfl rfl rfl rfl rfl rfl ?_ | refine JL.gskipU rfl rfl rfl rfl rfl ?_ | refine JL.gstep rfl rfl rfl (y_neq rfl rfl) rfl rfl ?_)
                all_goals (first | refine JL.gskip rfl rfl rfl rfl rfl rfl ?_ | refine JL.gskipU rfl rfl rfl rfl rfl ?_ | refine JL.gstep rfl rfl rfl (y_pick rfl rfl rfl) rfl rfl ?_)
                all_goals (refine JL.step (y_pick rfl rfl rfl) rfl rfl rfl ?_)
                all_goals refine JL.nil ?_
                all_goals refine JE.then_normal ?_
                all_goals
                  refine J.cond_f rfl (by (first | rfl | assumption | (simp; done) | (simp; omega))) ?_
                  refine J.skip ?_
                all_goals refine JE.then_normal ?_
                all_goals
                  refine J.seq ?_
                  refine J.region ?_
                  refine JL.step (y_move rfl) rfl rfl rfl ?_
                  refine JL.loud rfl (l_callF e30 rfl rfl (Fc.on (Split.cons (by (repeat (first | exact Pick.head | apply Pick.tail | apply Pick.app))) Split.nil) (again_spec E d _ hLc h64)) ?_)
                  rintro _ _ ⟨lg2, st2, rfl, rfl⟩
                  refine JL.step (y_move rfl) rfl rfl rfl (JL.step (y_extract rfl rfl) rfl rfl rfl (JL.step (y_extract rfl rfl) rfl rfl rfl (JL.step (y_assign rfl) rfl rfl rfl (JL.step (y_assign rfl) rfl rfl rfl ?_))))
                  refine JL.nil ?_
                  refine JE.then_normal ?_
                  refine J.seq ?_
                  refine J.seq ?_
                  refine J.region ?_
                  refine JL.step (y_move rfl) rfl rfl rfl (JL.step (y_not rfl) rfl rfl rfl ?_)
                  refine JL.nil ?_
                  refine JE.then_normal ?_
                  refine J.cond_f rfl (by (first | rfl | assumption | (simp; done) | (simp; omega))) ?_
                  refine J.skip ?_
                  refine JE.then_normal ?_
                  refine J.seq ?_
                  refine J.region ?_
                  refine JL.step (y_move rfl) rfl rfl rfl ?_
                  refine JL.loud rfl (l_callF e39 rfl rfl (Fc.on (Split.cons (by (repeat (first | exact Pick.head | apply Pick.tail | apply Pick.app))) Split.nil) (of_spec E lg2 st2 _ _)) ?_)
                  rintro _ _ ⟨cs2, K2, rfl, ⟨p2, c2, q2, d2, v2, rfl, hs2, hq2, hx2⟩, rfl⟩
                  refine JL.loud rfl (l_alloc hT rfl rfl (by (first | rfl | simp)) rfl (fun b18 => ?_))
                  refine JL.loud rfl (l_storeAll hT rfl rfl rfl (by (first | rfl | assumption | (simp; done) | omega)) (by (first | assumption | exact ones_of rfl | exact encW_one _ | exact encB_one _ | (intro u hu; simp at hu; rcases hu with rfl | rfl <;> rfl) | (intro u hu; simp at hu; subst hu; rfl) | simp)) (by (repeat (first | exact Pick.head | apply Pick.tail | apply Pick.app))) (by (first | rfl | assumption | (simp; done) | omega)) ?_)
                  refine JL.nil ?_
                  refine JE.then_normal ?_
                  refine J.seq ?_
                  refine J.seq ?_
                  have hB2 : StB K2 _ L2.snap L2.txs := ⟨p2, c2, q2, d2, v2, rfl, hs2, hq2, hx2⟩
                  obtain ⟨be, hbe⟩ : ∃ be, decide (L2.snap = L.snap ∧ L2.txs = L.txs) = be := ⟨_, rfl⟩
                  have hbt : be = false → decide (L2.snap = A.snap ∧ L2.txs = A.txs) = true := fun h => by
                    rcases hor with rfl | rfl
                    · rw [h] at hbe; simp at hbe
                    · simp
                  have hcb := hLc.small.bytes
                  have hctb : ∀ b ∈ L2.txs, Bytes b := fun b hb => (hLc.smalls b hb).bytes
                  cases be
                  all_goals
                    refine J.region ?_
                    refine JL.step (y_move rfl) rfl rfl rfl (JL.step (y_eql rfl rfl) rfl rfl rfl (JL.step (y_move rfl) rfl rfl rfl ?_))
                    all_goals (first | (refine JL.gsplit_dec rfl rfl rfl (fun h => ?_) (fun h => ?_) <;> try (first | (exfalso; omega) | exact absurd rfl h)) | (refine JL.gsplit rfl rfl rfl (fun h => ?_) (fun h => ?_) <;> try (first | cases h | (exfalso; simp at h; done))) | skip)
                    all_goals (first | refine JL.gskip rfl rfl rfl rfl rfl rfl ?_ | refine JL.gskipU rfl rfl rfl rfl rfl ?_ | refine JL.gstep rfl rfl rfl (y_loadN hT rfl rfl rfl (by (first | exact RdN.rowAll (by (repeat (first | exact Pick.head | apply Pick.tail | apply Pick.app))) | exact RdN.own (by (repeat (first | exact Pick.head | apply Pick.tail | apply Pick.app))))) (by (first | rfl | assumption | (simp; done) | omega))) rfl rfl ?_)
                    all_goals (first | refine JL.gskip rfl rfl rfl rfl rfl rfl ?_ | refine JL.gskipU rfl rfl rfl rfl rfl ?_ | refine JL.gstep rfl rfl rfl (y_loadN hT rfl rfl rfl (by (first | exact RdN.rowAll (by (repeat (first | exact Pick.head | apply Pick.tail | apply Pick.app))) | exact RdN.own (by (repeat (first | exact Pick.head | apply Pick.tail | apply Pick.app))))) (by (first | rfl | assumption | (simp; done) | omega))) rfl rfl ?_)
                    all_goals (first | refine JL.gskip rfl rfl rfl rfl rfl rfl ?_ | refine JL.gskipU rfl rfl rfl rfl rfl ?_ | (refine JL.gloud rfl rfl rfl (l_callF e40 rfl rfl (same_spec E K2 K _ _ A.snap A.snap A.txs A.txs _ _ _ hB2 hBA (by (repeat (first | exact Pick.head | apply Pick.tail | apply Pick.app))) (by (repeat (first | exact Pick.head | apply Pick.tail | apply Pick.app))) hAb hAb hAtb hAtb (by omega) true (by simp)) ?_); rintro _ _ ⟨rfl, rfl⟩))
                    all_goals (first | refine JL.gskip rfl rfl rfl rfl rfl rfl ?_ | refine JL.gskipU rfl rfl rfl rfl rfl ?_ | refine JL.gstep rfl rfl rfl (y_not rfl) rfl rfl ?_)
                    all_goals (refine JL.step (y_pick rfl rfl rfl) rfl rfl rfl ?_)
                    all_goals (refine JL.step (y_move rfl) rfl rfl rfl ?_)
                    all_goals (first | (refine JL.gsplit_dec rfl rfl rfl (fun h => ?_) (fun h => ?_) <;> try (first | (exfalso; omega) | exact absurd rfl h)) | (refine JL.gsplit rfl rfl rfl (fun h => ?_) (fun h => ?_) <;> try (first | cases h | (exfalso; simp at h; done))) | skip)
                    all_goals (first | refine JL.gskip rfl rfl rfl rfl rfl rfl ?_ | refine JL.gskipU rfl rfl rfl rfl rfl ?_ | refine JL.gstep rfl rfl rfl (y_loadN hT rfl rfl rfl (by (first | exact RdN.rowAll (by (repeat (first | exact Pick.head | apply Pick.tail | apply Pick.app))) | exact RdN.own (by (repeat (first | exact Pick.head | apply Pick.tail | apply Pick.app))))) (by (first | rfl | assumption | (simp; done) | omega))) rfl rfl ?_)
                    all_goals (first | refine JL.gskip rfl rfl rfl rfl rfl rfl ?_ | refine JL.gskipU rfl rfl rfl rfl rfl ?_ | refine JL.gstep rfl rfl rfl (y_loadN hT rfl rfl rfl (by (first | exact RdN.rowAll (by (repeat (first | exact Pick.head | apply Pick.tail | apply Pick.app))) | exact RdN.own (by (repeat (first | exact Pick.head | apply Pick.tail | apply Pick.app))))) (by (first | rfl | assumption | (simp; done) | omega))) rfl rfl ?_)
                    all_goals (first | refine JL.gskip rfl rfl rfl rfl rfl rfl ?_ | refine JL.gskipU rfl rfl rfl rfl rfl ?_ | (refine JL.gloud rfl rfl rfl (l_callF e40 rfl rfl (same_spec E K2 K _ _ _ L.snap _ L.txs _ _ _ hB2 hBK (by (repeat (first | exact Pick.head | apply Pick.tail | apply Pick.app))) (by (repeat (first | exact Pick.head | apply Pick.tail | apply Pick.app))) hcb hLb hctb hLtb (by omega) _ hbe) ?_); rintro _ _ ⟨rfl, rfl⟩))
                    all_goals (first | refine JL.gskip rfl rfl rfl rfl rfl rfl ?_ | refine JL.gskipU rfl rfl rfl rfl rfl ?_ | refine JL.gstep rfl rfl rfl (y_not rfl) rfl rfl ?_)
                    all_goals (first | refine JL.gskip rfl rfl rfl rfl rfl rfl ?_ | refine JL.gskipU rfl rfl rfl rfl rfl ?_ | refine JL.gstep rfl rfl rfl (y_move rfl) rfl rfl ?_)
                    all_goals (first | (refine JL.gsplit_dec rfl rfl rfl (fun h => ?_) (fun h => ?_) <;> try (first | (exfalso; omega) | exact absurd rfl h)) | (refine JL.gsplit rfl rfl rfl (fun h => ?_) (fun h => ?_) <;> try (first | cases h | (exfalso; simp at h; done))) | skip)
                    all_goals (first | refine JL.gskip rfl rfl rfl rfl rfl rfl ?_ | refine JL.gskipU rfl rfl rfl rfl rfl ?_ | refine JL.gstep rfl rfl rfl (y_loadN hT rfl rfl rfl (by (first | exact RdN.rowAll (by (repeat (first | exact Pick.head | apply Pick.tail | apply Pick.app))) | exact RdN.own (by (repeat (first | exact Pick.head | apply Pick.tail | apply Pick.app))))) (by (first | rfl | assumption | (simp; done) | omega))) rfl rfl ?_)
                    all_goals (first | refine JL.gskip rfl rfl rfl rfl rfl rfl ?_ | refine JL.gskipU rfl rfl rfl rfl rfl ?_ | refine JL.gstep rfl rfl rfl (y_loadN hT rfl rfl rfl (by (first | exact RdN.rowAll (by (repeat (first | exact Pick.head | apply Pick.tail | apply Pick.app))) | exact RdN.own (by (repeat (first | exact Pick.head | apply Pick.tail | apply Pick.app))))) (by (first | rfl | assumption | (simp; done) | omega))) rfl rfl ?_)
                    all_goals (first | refine JL.gskip rfl rfl rfl rfl rfl rfl ?_ | refine JL.gskipU rfl rfl rfl rfl rfl ?_ | (refine JL.gloud rfl rfl rfl (l_callF e40 rfl rfl (same_spec E K2 K _ _ _ A.snap _ A.txs _ _ _ hB2 hBA (by (repeat (first | exact Pick.head | apply Pick.tail | apply Pick.app))) (by (repeat (first | exact Pick.head | apply Pick.tail | apply Pick.app))) hcb hAb hctb hAtb (by omega) true (hbt rfl)) ?_); rintro _ _ ⟨rfl, rfl⟩))
                    all_goals (first | refine JL.gskip rfl rfl rfl rfl rfl rfl ?_ | refine JL.gskipU rfl rfl rfl rfl rfl ?_ | refine JL.gstep rfl rfl rfl (y_not rfl) rfl rfl ?_)
                    all_goals (first | refine JL.gskip rfl rfl rfl rfl rfl rfl ?_ | refine JL.gskipU rfl rfl rfl rfl rfl ?_ | refine JL.gstep rfl rfl rfl (y_pick rfl rfl rfl) rfl rfl ?_)
                    all_goals (refine JL.step (y_pick rfl rfl rfl) rfl rfl rfl ?_)
                    all_goals refine JL.nil ?_
                  all_goals refine JE.then_normal ?_
                  all_goals
                    refine J.cond_f rfl (by (first | rfl | assumption | (simp; done) | (simp; omega))) ?_
                    refine J.skip ?_
                  all_goals refine JE.then_normal ?_
                  all_goals
                    refine J.seq ?_
                    refine J.region ?_
                    refine JL.step (y_move rfl) rfl rfl rfl ?_
                    refine JL.loud rfl (l_callF e30 rfl rfl (Fc.on (Split.cons (by (repeat (first | exact Pick.head | apply Pick.tail | apply Pick.app))) Split.nil) (again_spec E d _ hLc h64)) ?_)
                    rintro _ _ ⟨lg3, st3, rfl, rfl⟩
                    refine JL.step (y_move rfl) rfl rfl rfl (JL.step (y_extract rfl rfl) rfl rfl rfl (JL.step (y_extract rfl rfl) rfl rfl rfl (JL.step (y_assign rfl) rfl rfl rfl (JL.step (y_assign rfl) rfl rfl rfl ?_))))
                    refine JL.nil ?_
                    refine JE.then_normal ?_
                    refine J.seq ?_
                    refine J.seq ?_
                    refine J.draw _ _ [(0, .q), (1, .q), (2, .q), (3, .q), (5, .q), (4, .l), (6, .e), (7, .q), (8, .q)] mixed (by kernel_rfl) (Split.cons (Pick.head) (Split.nil)) ?_
                    refine JM.quiet rfl rfl rfl rfl (fun m => y_move rfl) ?_
                    refine JM.quiet rfl rfl rfl rfl (fun m => y_not rfl) ?_
                    refine JM.quiet rfl rfl rfl rfl (fun m => y_move rfl) ?_
                    all_goals (first | refine JM.gskip rfl rfl rfl rfl rfl rfl rfl ?_ | refine JM.gskipU rfl rfl rfl rfl rfl rfl ?_ | refine JM.gquiet rfl rfl rfl rfl rfl rfl (fun m => y_move rfl) ?_)
                    all_goals (first | refine JM.gskip rfl rfl rfl rfl rfl rfl rfl ?_ | refine JM.gskipU rfl rfl rfl rfl rfl rfl ?_ | refine JM.gquiet rfl rfl rfl rfl rfl rfl (fun m => y_loadN hT rfl rfl rfl (by (first | exact RdN.rowAll (Pick.app m (by (repeat (first | exact Pick.head | apply Pick.tail | apply Pick.app)))) | exact RdN.own (Pick.app m (by (repeat (first | exact Pick.head | apply Pick.tail | apply Pick.app)))))) (by (first | rfl | assumption | (simp; done) | omega))) ?_)
                    refine JM.gloud rfl rfl rfl rfl (fun fr => l_callF e39 rfl rfl (of_spec E lg3 st3 _ _) ?_)
                    rintro _ _ ⟨cs4, K4, rfl, hB4, rfl⟩
                    refine ⟨[_, _], (by (repeat (first | exact Split.nil | exact Split.all | refine Split.cons Pick.head ?_))), ?_⟩
                    refine JM.gearly rfl rfl rfl rfl rfl rfl (fun fr => y_callF e40 rfl (same_spec E K4 K2 cs4 _ _ _ _ _ _ _ _ hB4 hB2 (by (repeat (first | exact Pick.head | apply Pick.tail | apply Pick.app))) (by (repeat (first | exact Pick.head | apply Pick.tail | apply Pick.app))) hcb hcb hctb hctb (by omega) true (decide_eq_true ⟨rfl, rfl⟩))) ?_
                    all_goals (first | refine JM.gskip rfl rfl rfl rfl rfl rfl rfl ?_ | refine JM.gskipU rfl rfl rfl rfl rfl rfl ?_ | refine JM.gquiet rfl rfl rfl rfl rfl rfl (fun m => y_not rfl) ?_)
                    all_goals refine JM.quiet rfl rfl rfl rfl (fun m => y_pick rfl rfl rfl) ?_
                    all_goals refine JM.nil ?_
                    all_goals refine JE.then_normal ?_
                    all_goals
                      refine J.cond_f rfl (by (first | rfl | assumption | (simp; done) | (simp; omega))) ?_
                      refine J.skip ?_
                    all_goals refine JE.then_normal ?_
                    all_goals
                      refine J.seq ?_
                      refine J.seq ?_
                      obtain ⟨L3, D3, e3, eA3, hL3, hd3, hor3⟩ := hLc.put hmore
                      rcases hor3 with ⟨_, rfl, hL3e⟩ | ⟨hno, rfl, rfl, rfl⟩
                      all_goals
                        refine J.region ?_
                        refine JL.step (y_move rfl) rfl rfl rfl ?_
                        refine JL.loud rfl (l_buildSliceP (cs := ints .u8 [109, 111, 114, 101]) hT rfl rfl rfl rfl rfl rfl rfl (fill_b4 _ _ _ _ _) rfl (fun b19 => ?_))
                        refine JL.loud rfl (l_convBytes hT rfl rfl rfl rfl rfl (by (repeat (first | exact Pick.head | apply Pick.tail | apply Pick.app))) rfl ?_)
                        refine JL.loud rfl (l_callF e19 rfl rfl (Fc.on (Split.cons (by (repeat (first | exact Pick.head | apply Pick.tail | apply Pick.app))) (Split.cons (by (repeat (first | exact Pick.head | apply Pick.tail | apply Pick.app))) (Split.cons (by (repeat (first | exact Pick.head | apply Pick.tail | apply Pick.app))) Split.nil))) (append_lh E lg3 st3 d _ hLc [109, 111, 114, 101] _ _ 4 rfl hmore (by omega) eA3 (InL.ofMrow (by (repeat (first | exact Pick.head | apply Pick.tail | apply Pick.app))) (by decide)))) ?_)
                        rintro _ _ ⟨rfl, rfl⟩
                        refine JL.step (y_eql rfl rfl) rfl rfl rfl ?_
                        refine JL.nil ?_
                      all_goals refine JE.then_normal ?_
                      all_goals
                        focus
                          first | apply J.cond_dec rfl | apply J.cond rfl
                          focus
                            intro h
                            try (first | (exfalso; omega) | (cases h; done) | (exfalso; simp at h; done) | subst h)
                            all_goals
                              refine J.seq ?_
                              refine J.region ?_
                              refine JL.step (y_move rfl) rfl rfl rfl ?_
                              refine JL.loud rfl (l_callF e30 rfl rfl (Fc.on (Split.cons (by (repeat (first | exact Pick.head | apply Pick.tail | apply Pick.app))) Split.nil) (again_spec E d _ hL3 (by omega))) ?_)
                              rintro _ _ ⟨lg5, st5, rfl, rfl⟩
                              refine JL.step (y_move rfl) rfl rfl rfl (JL.step (y_extract rfl rfl) rfl rfl rfl (JL.step (y_extract rfl rfl) rfl rfl rfl (JL.step (y_assign rfl) rfl rfl rfl (JL.step (y_assign rfl) rfl rfl rfl ?_))))
                              refine JL.nil ?_
                              refine JE.then_normal ?_
                              refine J.seq ?_
                              refine J.draw _ _ [(0, .q), (1, .q), (2, .q), (5, .q), (6, .q), (7, .q), (8, .q), (3, .l), (4, .q), (9, .q), (10, .q), (11, .q)] mixed (by kernel_rfl) (Split.cons (Pick.head) (Split.nil)) ?_
                              refine JM.quiet rfl rfl rfl rfl (fun m => y_move rfl) ?_
                              refine JM.quiet rfl rfl rfl rfl (fun m => y_move rfl) ?_
                              all_goals (first | refine JM.gskip rfl rfl rfl rfl rfl rfl rfl ?_ | refine JM.gskipU rfl rfl rfl rfl rfl rfl ?_ | refine JM.gquiet rfl rfl rfl rfl rfl rfl (fun m => y_move rfl) ?_)
                              all_goals (first | refine JM.gskip rfl rfl rfl rfl rfl rfl rfl ?_ | refine JM.gskipU rfl rfl rfl rfl rfl rfl ?_ | refine JM.gquiet rfl rfl rfl rfl rfl rfl (fun m => y_fieldAddr hT rfl rfl rfl rfl rfl rfl) ?_)
                              all_goals (first | refine JM.gskip rfl rfl rfl rfl rfl rfl rfl ?_ | refine JM.gskipU rfl rfl rfl rfl rfl rfl ?_ | refine JM.gquiet rfl rfl rfl rfl rfl rfl (fun m => y_load1 hT rfl rfl rfl (by (exact Rd1.row (Pick.app m (by (repeat (first | exact Pick.head | apply Pick.tail | apply Pick.app)))) (by rfl)))) ?_)
                              all_goals (first | refine JM.gskip rfl rfl rfl rfl rfl rfl rfl ?_ | refine JM.gskipU rfl rfl rfl rfl rfl rfl ?_ | refine JM.gquiet rfl rfl rfl rfl rfl rfl (fun m => y_len_slice hT rfl rfl rfl) ?_)
                              all_goals (first | refine JM.gskip rfl rfl rfl rfl rfl rfl rfl ?_ | refine JM.gskipU rfl rfl rfl rfl rfl rfl ?_ | refine JM.gquiet rfl rfl rfl rfl rfl rfl (fun m => y_add rfl rfl (by (first | exact wrap_i64 (by omega) (by omega) | rfl))) ?_)
                              refine JM.gloud rfl rfl rfl rfl (fun fr => l_callF e24 rfl rfl (ltxs_len1 E lg5 st5 L3 (L2.txs.length + 1) _ (by rw [hL3e]; simp)) ?_)
                              rintro _ _ ⟨ua, uc, K5, rfl, rfl⟩
                              refine ⟨[_, _], (by (repeat (first | exact Split.nil | exact Split.all | refine Split.cons Pick.head ?_))), ?_⟩
                              all_goals (first | refine JM.gskip rfl rfl rfl rfl rfl rfl rfl ?_ | refine JM.gskipU rfl rfl rfl rfl rfl rfl ?_ | refine JM.gquiet rfl rfl rfl rfl rfl rfl (fun m => y_len_slice hT rfl rfl rfl) ?_)
                              all_goals (first | refine JM.gskip rfl rfl rfl rfl rfl rfl rfl ?_ | refine JM.gskipU rfl rfl rfl rfl rfl rfl ?_ | refine JM.gquiet rfl rfl rfl rfl rfl rfl (fun m => y_eql rfl rfl) ?_)
                              all_goals refine JM.quiet rfl rfl rfl rfl (fun m => y_pick rfl rfl rfl) ?_
                              all_goals refine JM.quiet rfl rfl rfl rfl (fun m => y_assign rfl) ?_
                              all_goals refine JM.nil ?_
                              all_goals refine JE.then_normal ?_
                              all_goals
                                refine J.ret ?_
                                refine JE.then_ret ?_
                                refine JE.ret1 (.inl rfl) rfl rfl (by (first | exact RV.tmp rfl | exact RV.cell1 hT rfl rfl rfl (by (exact Rd1.row (by (repeat (first | exact Pick.head | apply Pick.tail | apply Pick.app))) (by rfl))) | exact RV.cellN hT rfl rfl rfl (by (first | exact RdN.rowAll (by (repeat (first | exact Pick.head | apply Pick.tail | apply Pick.app))) | exact RdN.own (by (repeat (first | exact Pick.head | apply Pick.tail | apply Pick.app))))) (by (first | rfl | assumption | (simp; done) | omega)))) ?_
                                refine ⟨by first | rfl | (simp; done), fun w q => ?_⟩
                                exact (Sat.keptR (A := stars [KA, K1]) (B := K0) (by rw [← hK] at q; exact q) (by (repeat (first | exact Pick.head | apply Pick.tail | apply Pick.app)))).sup (by (repeat (first | exact Sup.refl | apply Sup.cons (by (repeat (first | exact Pick.head | apply Pick.tail | apply Pick.app))) | apply Sup.app | apply Sup.skip | apply Sup.skips)))
                          rotate_right 1
                          focus
                            intro h
                            try (first | (exfalso; omega) | (cases h; done) | (exfalso; simp at h; done) | subst h)
                            all_goals
                              refine J.skip ?_
                      all_goals refine JE.then_normal ?_
                      all_goals
                        refine J.seq ?_
                        refine J.region ?_
                        refine JL.step (y_move rfl) rfl rfl rfl ?_
                        refine JL.loud rfl (l_callF e16 rfl rfl (Fc.on (Split.cons (by (repeat (first | exact Pick.head | apply Pick.tail | apply Pick.app))) (Split.cons (by (repeat (first | exact Pick.head | apply Pick.tail | apply Pick.app))) (Split.cons (by (repeat (first | exact Pick.head | apply Pick.tail | apply Pick.app))) Split.nil))) (room_no E lg3 st3 d hLc 4 (by decide) hno _)) ?_)
                        rintro _ _ ⟨rfl, rfl⟩
                        refine JL.step (y_not rfl) rfl rfl rfl (JL.step (y_assign rfl) rfl rfl rfl ?_)
                        refine JL.nil ?_
                        refine JE.then_normal ?_
                        refine J.ret ?_
                        refine JE.ret1 (.inl rfl) rfl rfl (by (first | exact RV.tmp rfl | exact RV.cell1 hT rfl rfl rfl (by (exact Rd1.row (by (repeat (first | exact Pick.head | apply Pick.tail | apply Pick.app))) (by rfl))) | exact RV.cellN hT rfl rfl rfl (by (first | exact RdN.rowAll (by (repeat (first | exact Pick.head | apply Pick.tail | apply Pick.app))) | exact RdN.own (by (repeat (first | exact Pick.head | apply Pick.tail | apply Pick.app))))) (by (first | rfl | assumption | (simp; done) | omega)))) ?_
                        refine ⟨by first | rfl | (simp; done), fun w q => ?_⟩
                        exact (Sat.keptR (A := stars [KA, K1]) (B := K0) (by rw [← hK] at q; exact q) (by (repeat (first | exact Pick.head | apply Pick.tail | apply Pick.app)))).sup (by (repeat (first | exact Sup.refl | apply Sup.cons (by (repeat (first | exact Pick.head | apply Pick.tail | apply Pick.app))) | apply Sup.app | apply Sup.skip | apply Sup.skips)))
          ·
            have hf : A.txs.length ≤ 31 := hAn
            have h64 : 64 ≤ (X.crash keep).safe.length := by rw [crash_len]; omega
            refine J.seq ?_
            refine J.region ?_
            refine JL.step (y_assign rfl) rfl rfl rfl ?_
            refine JL.nil ?_
            refine JE.then_normal ?_
            refine J.seq ?_
            refine J.seq ?_
            refine J.region ?_
            refine JL.step (y_loadN hT rfl rfl rfl (by (first | exact RdN.rowAll (by (repeat (first | exact Pick.head | apply Pick.tail | apply Pick.app))) | exact RdN.own (by (repeat (first | exact Pick.head | apply Pick.tail | apply Pick.app))))) (by (first | rfl | assumption | (simp; done) | omega))) rfl rfl rfl ?_
            refine JL.loud rfl (l_callF e33 rfl rfl (kind12_spec E o _) ?_)
            rintro _ _ ⟨rfl, rfl⟩
            refine JL.step (y_eql rfl rfl) rfl rfl rfl ?_
            refine JL.nil ?_
            refine JE.then_normal ?_
            refine J.cond_t rfl (by (first | rfl | assumption | (simp; done) | (simp; omega))) ?_
            refine J.region ?_
            refine JL.step (y_move rfl) rfl rfl rfl ?_
            refine JL.step (y_loadN hT rfl rfl rfl (by (first | exact RdN.rowAll (by (repeat (first | exact Pick.head | apply Pick.tail | apply Pick.app))) | exact RdN.own (by (repeat (first | exact Pick.head | apply Pick.tail | apply Pick.app))))) (by (first | rfl | assumption | (simp; done) | omega))) rfl rfl rfl ?_
            refine JL.loud rfl (l_callF e32 rfl rfl (cbytes _) ?_)
            rintro _ _ ⟨rfl, rfl⟩
            refine JL.loud rfl (l_callF e18 rfl rfl (Fc.on (Split.cons (by (repeat (first | exact Pick.head | apply Pick.tail | apply Pick.app))) (Split.cons (by (repeat (first | exact Pick.head | apply Pick.tail | apply Pick.app))) (Split.cons (by (repeat (first | exact Pick.head | apply Pick.tail | apply Pick.app))) Split.nil))) (check_arm E lg st d _ hL k b bp bc b.length rfl hsm eR (hbin.kept (by (repeat (first | exact Pick.head | apply Pick.tail | apply Pick.app)))))) ?_)
            rintro _ _ ⟨rfl, rfl⟩
            refine JL.step (y_assign rfl) rfl rfl rfl ?_
            refine JL.nil ?_
            refine JE.then_normal ?_
            refine J.seq ?_
            refine J.seq ?_
            refine J.region ?_
            refine JL.step (y_move rfl) rfl rfl rfl (JL.step (y_neq rfl rfl) rfl rfl rfl (JL.step (y_move rfl) rfl rfl rfl ?_))
            all_goals (first | (refine JL.gsplit_dec rfl rfl rfl (fun h => ?_) (fun h => ?_) <;> try (first | (exfalso; omega) | exact absurd rfl h)) | (refine JL.gsplit rfl rfl rfl (fun h => ?_) (fun h => ?_) <;> try (first | cases h | (exfalso; simp at h; done))) | skip)
            all_goals (first | refine JL.gskip rfl rfl rfl rfl rfl rfl ?_ | refine JL.gskipU rfl rfl rfl rfl rfl ?_ | refine JL.gstep rfl rfl rfl (y_move rfl) rfl rfl ?_)
            all_goals (first | refine JL.gskip rfl rfl rfl rfl rfl rfl ?_ | refine JL.gskipU rfl rfl rfl rfl rfl ?_ | refine JL.gstep rfl rfl rfl (y_neq rfl rfl) rfl rfl ?_)
            all_goals (refine JL.step (y_pick rfl rfl rfl) rfl rfl rfl ?_)
            all_goals refine JL.nil ?_
            all_goals refine JE.then_normal ?_
            all_goals
              refine J.cond_f rfl (by (first | rfl | assumption | (simp; done) | (simp; omega))) ?_
              refine J.skip ?_
            all_goals refine JE.then_normal ?_
            all_goals
              refine J.seq ?_
              refine J.draw _ _ [(0, .q), (1, .q), (3, .q), (4, .q), (6, .q), (2, .n), (5, .l), (7, .q), (8, .n), (9, .l), (10, .q), (11, .n), (12, .l)] mixed (by kernel_rfl) (Split.nil) ?_
              refine JM.quiet rfl rfl rfl rfl (fun m => y_fieldAddr hT rfl rfl rfl rfl rfl rfl) ?_
              refine JM.quiet rfl rfl rfl rfl (fun m => y_load1 hT rfl rfl rfl (by (exact Rd1.row (Pick.app m (by (repeat (first | exact Pick.head | apply Pick.tail | apply Pick.app)))) (by rfl)))) ?_
              refine JM.quiet rfl rfl rfl rfl (fun m => y_fieldAddr hT rfl rfl rfl rfl rfl rfl) ?_
              refine JM.quiet rfl rfl rfl rfl (fun m => y_load1 hT rfl rfl rfl (by (exact Rd1.row (Pick.app m (by (repeat (first | exact Pick.head | apply Pick.tail | apply Pick.app)))) (by rfl)))) ?_
              refine JM.quiet rfl rfl rfl rfl (fun m => y_loadN hT rfl rfl rfl (by (first | exact RdN.rowAll (Pick.app m (by (repeat (first | exact Pick.head | apply Pick.tail | apply Pick.app)))) | exact RdN.own (Pick.app m (by (repeat (first | exact Pick.head | apply Pick.tail | apply Pick.app)))))) (by (first | rfl | assumption | (simp; done) | omega))) ?_
              refine JM.lay rfl rfl rfl rfl (fun a hf => lays_buildSlice0 hT rfl rfl rfl) (fun b11 => ?_)
              refine JM.loud rfl rfl (fun fr => LS.pre (fun w s => Sat.own_zero (size := 1) (s.pick (by (repeat (first | exact Pick.head | apply Pick.tail | apply Pick.app))))) (l_appendIn (nn := 0) (m := L.txs.length) hT rfl rfl rfl rfl rfl rfl rfl rfl Pick.head (hq1.kept (by (repeat (first | exact Pick.head | apply Pick.tail | apply Pick.app)))) (by rw [show i36.size = 1 from rfl, hv1, Nat.mul_one]) hv1o (by rw [show i36.bytes = 24 from rfl]; omega) (by omega) rfl (fun a1 a1c ha1 => ⟨[_], (by (repeat (first | exact Split.nil | exact Split.all | refine Split.cons Pick.head ?_))), ?_⟩)))
              rw [Nat.zero_add L.txs.length, List.nil_append v1]
              refine JM.quiet rfl rfl rfl rfl (fun m => y_callF e32 rfl (cbytes _)) ?_
              refine JM.lay rfl rfl rfl rfl (fun a hf => lays_buildSlice hT rfl rfl rfl rfl hf rfl rfl rfl (by (first | exact fill_one rfl (by first | assumption | rfl | (simp; done)) | rfl | simp))) (fun b12 => ?_)
              refine JM.loud rfl rfl (fun fr => l_appendIn (nn := L.txs.length) (m := 1) hT rfl rfl rfl rfl rfl rfl rfl rfl (by (repeat (first | exact Pick.head | apply Pick.tail | apply Pick.app))) (InL.ofRow (cs := [.slice bp b.length bc]) (by (repeat (first | exact Pick.head | apply Pick.tail | apply Pick.app))) (by decide)) (by rfl) (ones_of rfl) (by rw [show i36.bytes = 24 from rfl]; omega) (by omega) rfl (fun a2 a2c ha2 => ⟨[_, _], (by (repeat (first | exact Split.nil | exact Split.all | refine Split.cons Pick.head ?_))), ?_⟩))
              refine JM.quiet rfl rfl rfl rfl (fun m => y_build (cs := [_, _]) hT rfl rfl rfl rfl rfl rfl ⟨⟨(by (first | rfl | assumption | (simp; done) | omega)), Nat.le_of_ble_eq_true rfl⟩, ⟨⟨(by (first | rfl | assumption | (simp; done) | omega)), Nat.le_of_ble_eq_true rfl⟩, trivial⟩⟩ rfl) ?_
              refine JM.lay rfl rfl rfl rfl (fun a hf => lays_alloc hT rfl rfl (by (first | rfl | simp))) (fun b15 => ?_)
              refine JM.loud rfl rfl (fun fr => l_storeAll hT rfl rfl rfl (by (first | rfl | assumption | (simp; done) | omega)) (by (first | assumption | exact ones_of rfl | exact encW_one _ | exact encB_one _ | (intro u hu; simp at hu; rcases hu with rfl | rfl <;> rfl) | (intro u hu; simp at hu; subst hu; rfl) | simp)) (by (repeat (first | exact Pick.head | apply Pick.tail | apply Pick.app))) (by (first | rfl | assumption | (simp; done) | omega)) (⟨[_, _, _], (by (repeat (first | exact Split.nil | exact Split.all | refine Split.cons Pick.head ?_))), ?_⟩))
              refine JM.nil ?_
              refine JE.then_normal ?_
              refine J.seq ?_
              refine J.seq ?_
              refine J.fact (p := OwnAt a2 (L.txs.length + 1) a2c (v1 ++ [.slice bp b.length bc])) (fun w s => Sat.own_at (s.pick (by (repeat (first | exact Pick.head | apply Pick.tail | apply Pick.app))))) fun oa2 => ?_
              obtain ⟨KA, hKA⟩ : ∃ K, own 36 1 (.slice a2 (L.txs.length + 1) a2c) (L.txs.length + 1) (v1 ++ [.slice bp b.length bc]) = K := ⟨_, rfl⟩
              have oin := oa2.inl (l := [own 36 1 (.slice a2 (L.txs.length + 1) a2c) (L.txs.length + 1) (v1 ++ [.slice bp b.length bc])]) Pick.head
              obtain ⟨K, hK⟩ : ∃ K, stars [stars [KA, K1], K0] = K := ⟨_, rfl⟩
              refine J.lists (fun w q => show Sat E (stars (logm lg st A :: K :: row st 90 (scells Sa d) :: disk d X :: row b15 74 [.slice p1 L.snap.length c1, .slice a2 (L.txs.length + 1) a2c] :: row b4 61 (opE o) :: row b5 72 [.int .i64 at_, .slice kp keep.length kc] :: row b13 74 [.slice p1 L.snap.length c1, .slice q1 L.txs.length d1] :: [])) w from by rw [← hK, ← hKA]; exact (Sat.fold (m := [stars [_, K1], K0]) (Sat.fold (m := [_, K1]) (q.sup (p := own 36 1 (.slice a2 (L.txs.length + 1) a2c) (L.txs.length + 1) (v1 ++ [.slice bp b.length bc]) :: K1 :: K0 :: logm lg st A :: row st 90 (scells Sa d) :: disk d X :: row b15 74 [.slice p1 L.snap.length c1, .slice a2 (L.txs.length + 1) a2c] :: row b4 61 (opE o) :: row b5 72 [.int .i64 at_, .slice kp keep.length kc] :: row b13 74 [.slice p1 L.snap.length c1, .slice q1 L.txs.length d1] :: []) (by (repeat (first | exact Sup.refl | apply Sup.cons (by (repeat (first | exact Pick.head | apply Pick.tail | apply Pick.app))) | apply Sup.app | apply Sup.skip | apply Sup.skips)))))).pick (Pick.tail Pick.head)) ?_
              have hinkK : InL [K] kp keep.length kc (keep.map Value.bool) := by rw [← hK]; exact hink.keepR
              have hbinK : InL [K] bp b.length bc (ints .u8 b) := by rw [← hK]; exact hbin.keepR
              have hBK : StB K [.slice p1 L.snap.length c1, .slice q1 L.txs.length d1] L.snap L.txs := by rw [← hK]; exact hB1.keepR.keepL
              have hBN : StB K [.slice p1 L.snap.length c1, .slice a2 (L.txs.length + 1) a2c] L.snap (L.txs ++ [b]) := by
                rw [← hK, ← hKA]
                exact ⟨p1, c1, a2, a2c, v1 ++ [.slice bp b.length bc], by simp, hs1.keepR.keepL, by rw [List.length_append]; exact oin.keepL.keepL, hx1.keepR.keepL.put hbin.keepR⟩
              refine J.region ?_
              refine JL.step (y_loadN hT rfl rfl rfl (by (first | exact RdN.rowAll (by (repeat (first | exact Pick.head | apply Pick.tail | apply Pick.app))) | exact RdN.own (by (repeat (first | exact Pick.head | apply Pick.tail | apply Pick.app))))) (by (first | rfl | assumption | (simp; done) | omega))) rfl rfl rfl ?_
              refine JL.loud rfl (l_callF e33 rfl rfl (kind12_spec E o _) ?_)
              rintro _ _ ⟨rfl, rfl⟩
              refine JL.step (y_eql rfl rfl) rfl rfl rfl ?_
              refine JL.nil ?_
              refine JE.then_normal ?_
              refine J.cond_t rfl (by (first | rfl | assumption | (simp; done) | (simp; omega))) ?_
              refine J.region ?_
              refine JL.step (y_loadN hT rfl rfl rfl (by (first | exact RdN.rowAll (by (repeat (first | exact Pick.head | apply Pick.tail | apply Pick.app))) | exact RdN.own (by (repeat (first | exact Pick.head | apply Pick.tail | apply Pick.app))))) (by (first | rfl | assumption | (simp; done) | omega))) rfl rfl rfl ?_
              refine JL.loud rfl (l_callF e32 rfl rfl (cbytes _) ?_)
              rintro _ _ ⟨rfl, rfl⟩
              refine JL.step (y_build (cs := [_, _]) hT rfl rfl rfl rfl rfl rfl ⟨⟨(by (first | rfl | assumption | (simp; done) | omega)), Nat.le_of_ble_eq_true rfl⟩, ⟨⟨(by (first | rfl | assumption | (simp; done) | omega)), Nat.le_of_ble_eq_true rfl⟩, trivial⟩⟩ rfl) rfl rfl rfl ?_
              refine JL.loud rfl (l_storeAll hT rfl rfl rfl (by (first | rfl | assumption | (simp; done) | omega)) (by (first | assumption | exact ones_of rfl | exact encW_one _ | exact encB_one _ | (intro u hu; simp at hu; rcases hu with rfl | rfl <;> rfl) | (intro u hu; simp at hu; subst hu; rfl) | simp)) (by (repeat (first | exact Pick.head | apply Pick.tail | apply Pick.app))) (by (first | rfl | assumption | (simp; done) | omega)) ?_)
              refine JL.nil ?_
              refine JE.then_normal ?_
              refine J.seq ?_
              refine J.seq ?_
              have hBA : StB K [.slice bp b.length bc, .slice none 0 0] A.snap A.txs := by rw [hAs, hAt]; exact ⟨bp, bc, none, 0, [], rfl, hbinK, InL.none12, TxB.none K⟩
              refine J.draw _ _ [(0, .q), (1, .q), (2, .q), (3, .q), (5, .q), (4, .l), (6, .e), (7, .q), (8, .q)] mixed (by kernel_rfl) (Split.cons (Pick.tail Pick.head) (Split.nil)) ?_
              refine JM.quiet rfl rfl rfl rfl (fun m => y_move rfl) ?_
              refine JM.quiet rfl rfl rfl rfl (fun m => y_eql rfl rfl) ?_
              refine JM.quiet rfl rfl rfl rfl (fun m => y_move rfl) ?_
              all_goals (first | refine JM.gskip rfl rfl rfl rfl rfl rfl rfl ?_ | refine JM.gskipU rfl rfl rfl rfl rfl rfl ?_ | refine JM.gquiet rfl rfl rfl rfl rfl rfl (fun m => y_move rfl) ?_)
              all_goals (first | refine JM.gskip rfl rfl rfl rfl rfl rfl rfl ?_ | refine JM.gskipU rfl rfl rfl rfl rfl rfl ?_ | refine JM.gquiet rfl rfl rfl rfl rfl rfl (fun m => y_loadN hT rfl rfl rfl (by (first | exact RdN.rowAll (Pick.app m (by (repeat (first | exact Pick.head | apply Pick.tail | apply Pick.app)))) | exact RdN.own (Pick.app m (by (repeat (first | exact Pick.head | apply Pick.tail | apply Pick.app)))))) (by (first | rfl | assumption | (simp; done) | omega))) ?_)
              refine JM.gloud rfl rfl rfl rfl (fun fr => l_callF e39 rfl rfl (Fc.on (Split.cons (by (repeat (first | exact Pick.head | apply Pick.tail | apply Pick.app))) Split.nil) (of_spec E lg st A _)) ?_)
              rintro _ _ ⟨cs3, K3, rfl, hB3, rfl⟩
              refine ⟨[_, _], (by (repeat (first | exact Split.nil | exact Split.all | refine Split.cons Pick.head ?_))), ?_⟩
              refine JM.gearly rfl rfl rfl rfl rfl rfl (fun fr => y_callF e40 rfl (same_spec E K3 K cs3 _ A.snap A.snap A.txs A.txs _ _ _ hB3 hBA (by (repeat (first | exact Pick.head | apply Pick.tail | apply Pick.app))) (by (repeat (first | exact Pick.head | apply Pick.tail | apply Pick.app))) hAb hAb hAtb hAtb (by omega) true (by simp))) ?_
              all_goals (first | refine JM.gskip rfl rfl rfl rfl rfl rfl rfl ?_ | refine JM.gskipU rfl rfl rfl rfl rfl rfl ?_ | refine JM.gquiet rfl rfl rfl rfl rfl rfl (fun m => y_not rfl) ?_)
              all_goals refine JM.quiet rfl rfl rfl rfl (fun m => y_pick rfl rfl rfl) ?_
              all_goals refine JM.nil ?_
              all_goals refine JE.then_normal ?_
              all_goals
                refine J.cond_f rfl (by (first | rfl | assumption | (simp; done) | (simp; omega))) ?_
                refine J.skip ?_
              all_goals refine JE.then_normal ?_
              all_goals
                refine J.seq ?_
                refine J.seq ?_
                refine J.region ?_
                refine JL.step (y_move rfl) rfl rfl rfl ?_
                refine JL.loud rfl (l_buildSlice0 hT rfl rfl rfl rfl (fun b18 => ?_))
                refine JL.step (y_fieldAddr hT rfl rfl rfl rfl rfl rfl) rfl rfl rfl ?_
                refine JL.step (y_load1 hT rfl rfl rfl (by (exact Rd1.row (by (repeat (first | exact Pick.head | apply Pick.tail | apply Pick.app))) (by rfl)))) rfl rfl rfl ?_
                refine JL.loud rfl (l_appendIn hT rfl rfl rfl rfl rfl rfl rfl rfl (by (repeat (first | exact Pick.head | apply Pick.tail | apply Pick.app))) (hinkK.kept (by (repeat (first | exact Pick.head | apply Pick.tail | apply Pick.app)))) (by rw [show i4.size = 1 from rfl]; simp) (by intro u hu; simp only [List.mem_map] at hu; obtain ⟨z, _, rfl⟩ := hu; rfl) (by rw [show i4.bytes = 1 from rfl]; omega) (by omega) rfl (fun ka kc' hc' => ?_))
                rw [Nat.zero_add keep.length, List.nil_append (keep.map Value.bool)]
                refine JL.loud rfl (l_callF e29 rfl rfl (Fc.fact (p := OwnAt ka keep.length kc' (keep.map Value.bool)) (fun w s => Sat.own_at (s.pick (by (repeat (first | exact Pick.head | apply Pick.tail | apply Pick.app))))) fun ok => Fc.on (Split.cons (by (repeat (first | exact Pick.head | apply Pick.tail | apply Pick.app))) Split.nil) (crash_spec E d X _ _ keep _ (ok.inl (by (repeat (first | exact Pick.head | apply Pick.tail | apply Pick.app)))) (by omega))) ?_)
                rintro _ _ ⟨rfl, rfl⟩
                refine JL.step (y_neq rfl rfl) rfl rfl rfl ?_
                refine JL.nil ?_
                refine JE.then_normal ?_
                refine J.cond_f rfl (by (first | rfl | assumption | (simp; done) | (simp; omega))) ?_
                refine J.skip ?_
                refine JE.then_normal ?_
                refine J.seq ?_
                refine J.seq ?_
                refine J.region ?_
                refine JL.step (y_move rfl) rfl rfl rfl (JL.step (y_eql rfl rfl) rfl rfl rfl (JL.step (y_move rfl) rfl rfl rfl ?_))
                all_goals (first | (refine JL.gsplit_dec rfl rfl rfl (fun h => ?_) (fun h => ?_) <;> try (first | (exfalso; omega) | exact absurd rfl h)) | (refine JL.gsplit rfl rfl rfl (fun h => ?_) (fun h => ?_) <;> try (first | cases h | (exfalso; simp at h; done))) | skip)
                all_goals (first | refine JL.gskip rfl rfl rfl rfl rfl rfl ?_ | refine JL.gskipU rfl rfl rfl rfl rfl ?_ | refine JL.gstep rfl rfl rfl (y_move rfl) rfl rfl ?_)
                all_goals (first | refine JL.gskip rfl rfl rfl rfl rfl rfl ?_ | refine JL.gskipU rfl rfl rfl rfl rfl ?_ | (refine JL.gloud rfl rfl rfl (l_callF e19 rfl rfl (Fc.on (Split.cons (by (repeat (first | exact Pick.head | apply Pick.tail | apply Pick.app))) (Split.cons (by (repeat (first | exact Pick.head | apply Pick.tail | apply Pick.app))) (Split.cons (by (repeat (first | exact Pick.head | apply Pick.tail | apply Pick.app))) Split.nil))) (append_broken E lg st d _ hhash (by omega) (Nat.zero_le _) (by omega))) ?_); rintro _ _ ⟨rfl, rfl⟩))
                all_goals (first | refine JL.gskip rfl rfl rfl rfl rfl rfl ?_ | refine JL.gskipU rfl rfl rfl rfl rfl ?_ | refine JL.gstep rfl rfl rfl (y_neq rfl rfl) rfl rfl ?_)
                all_goals (first | refine JL.gskip rfl rfl rfl rfl rfl rfl ?_ | refine JL.gskipU rfl rfl rfl rfl rfl ?_ | refine JL.gstep rfl rfl rfl (y_move rfl) rfl rfl ?_)
                all_goals (first | (refine JL.gsplit_dec rfl rfl rfl (fun h => ?_) (fun h => ?_) <;> try (first | (exfalso; omega) | exact absurd rfl h)) | (refine JL.gsplit rfl rfl rfl (fun h => ?_) (fun h => ?_) <;> try (first | cases h | (exfalso; simp at h; done))) | skip)
                all_goals (first | refine JL.gskip rfl rfl rfl rfl rfl rfl ?_ | refine JL.gskipU rfl rfl rfl rfl rfl ?_ | refine JL.gstep rfl rfl rfl (y_move rfl) rfl rfl ?_)
                all_goals (first | refine JL.gskip rfl rfl rfl rfl rfl rfl ?_ | refine JL.gskipU rfl rfl rfl rfl rfl ?_ | (refine JL.gloud rfl rfl rfl (l_callF e18 rfl rfl (Fc.on (Split.cons (by (repeat (first | exact Pick.head | apply Pick.tail | apply Pick.app))) (Split.cons (by (repeat (first | exact Pick.head | apply Pick.tail | apply Pick.app))) (Split.cons (by (repeat (first | exact Pick.head | apply Pick.tail | apply Pick.app))) Split.nil))) (check_broken E lg st d _ hhash (by omega) hplace (Nat.zero_le _))) ?_); rintro _ _ ⟨rfl, rfl⟩))
                all_goals (first | refine JL.gskip rfl rfl rfl rfl rfl rfl ?_ | refine JL.gskipU rfl rfl rfl rfl rfl ?_ | refine JL.gstep rfl rfl rfl (y_neq rfl rfl) rfl rfl ?_)
                all_goals (first | refine JL.gskip rfl rfl rfl rfl rfl rfl ?_ | refine JL.gskipU rfl rfl rfl rfl rfl ?_ | refine JL.gstep rfl rfl rfl (y_pick rfl rfl rfl) rfl rfl ?_)
                all_goals (refine JL.step (y_pick rfl rfl rfl) rfl rfl rfl ?_)
                all_goals refine JL.nil ?_
                all_goals refine JE.then_normal ?_
                all_goals
                  refine J.cond_f rfl (by (first | rfl | assumption | (simp; done) | (simp; omega))) ?_
                  refine J.skip ?_
                all_goals refine JE.then_normal ?_
                all_goals
                  refine J.seq ?_
                  refine J.region ?_
                  refine JL.step (y_move rfl) rfl rfl rfl ?_
                  refine JL.loud rfl (l_callF e30 rfl rfl (Fc.on (Split.cons (by (repeat (first | exact Pick.head | apply Pick.tail | apply Pick.app))) Split.nil) (again_spec E d _ hLc h64)) ?_)
                  rintro _ _ ⟨lg2, st2, rfl, rfl⟩
                  refine JL.step (y_move rfl) rfl rfl rfl (JL.step (y_extract rfl rfl) rfl rfl rfl (JL.step (y_extract rfl rfl) rfl rfl rfl (JL.step (y_assign rfl) rfl rfl rfl (JL.step (y_assign rfl) rfl rfl rfl ?_))))
                  refine JL.nil ?_
                  refine JE.then_normal ?_
                  refine J.seq ?_
                  refine J.seq ?_
                  refine J.region ?_
                  refine JL.step (y_move rfl) rfl rfl rfl (JL.step (y_not rfl) rfl rfl rfl ?_)
                  refine JL.nil ?_
                  refine JE.then_normal ?_
                  refine J.cond_f rfl (by (first | rfl | assumption | (simp; done) | (simp; omega))) ?_
                  refine J.skip ?_
                  refine JE.then_normal ?_
                  refine J.seq ?_
                  refine J.region ?_
                  refine JL.step (y_move rfl) rfl rfl rfl ?_
                  refine JL.loud rfl (l_callF e39 rfl rfl (Fc.on (Split.cons (by (repeat (first | exact Pick.head | apply Pick.tail | apply Pick.app))) Split.nil) (of_spec E lg2 st2 _ _)) ?_)
                  rintro _ _ ⟨cs2, K2, rfl, ⟨p2, c2, q2, d2, v2, rfl, hs2, hq2, hx2⟩, rfl⟩
                  refine JL.loud rfl (l_alloc hT rfl rfl (by (first | rfl | simp)) rfl (fun b18 => ?_))
                  refine JL.loud rfl (l_storeAll hT rfl rfl rfl (by (first | rfl | assumption | (simp; done) | omega)) (by (first | assumption | exact ones_of rfl | exact encW_one _ | exact encB_one _ | (intro u hu; simp at hu; rcases hu with rfl | rfl <;> rfl) | (intro u hu; simp at hu; subst hu; rfl) | simp)) (by (repeat (first | exact Pick.head | apply Pick.tail | apply Pick.app))) (by (first | rfl | assumption | (simp; done) | omega)) ?_)
                  refine JL.nil ?_
                  refine JE.then_normal ?_
                  refine J.seq ?_
                  refine J.seq ?_
                  have hB2 : StB K2 _ A.snap A.txs := ⟨p2, c2, q2, d2, v2, rfl, hs2, hq2, hx2⟩
                  obtain ⟨be, hbe⟩ : ∃ be, decide (A.snap = L.snap ∧ A.txs = L.txs) = be := ⟨_, rfl⟩
                  have hbt : be = false → decide (A.snap = A.snap ∧ A.txs = A.txs) = true := fun _ => by simp
                  have hcb := hAb
                  have hctb := hAtb
                  cases be
                  all_goals
                    refine J.region ?_
                    refine JL.step (y_move rfl) rfl rfl rfl (JL.step (y_eql rfl rfl) rfl rfl rfl (JL.step (y_move rfl) rfl rfl rfl ?_))
                    all_goals (first | (refine JL.gsplit_dec rfl rfl rfl (fun h => ?_) (fun h => ?_) <;> try (first | (exfalso; omega) | exact absurd rfl h)) | (refine JL.gsplit rfl rfl rfl (fun h => ?_) (fun h => ?_) <;> try (first | cases h | (exfalso; simp at h; done))) | skip)
                    all_goals (first | refine JL.gskip rfl rfl rfl rfl rfl rfl ?_ | refine JL.gskipU rfl rfl rfl rfl rfl ?_ | refine JL.gstep rfl rfl rfl (y_loadN hT rfl rfl rfl (by (first | exact RdN.rowAll (by (repeat (first | exact Pick.head | apply Pick.tail | apply Pick.app))) | exact RdN.own (by (repeat (first | exact Pick.head | apply Pick.tail | apply Pick.app))))) (by (first | rfl | assumption | (simp; done) | omega))) rfl rfl ?_)
                    all_goals (first | refine JL.gskip rfl rfl rfl rfl rfl rfl ?_ | refine JL.gskipU rfl rfl rfl rfl rfl ?_ | refine JL.gstep rfl rfl rfl (y_loadN hT rfl rfl rfl (by (first | exact RdN.rowAll (by (repeat (first | exact Pick.head | apply Pick.tail | apply Pick.app))) | exact RdN.own (by (repeat (first | exact Pick.head | apply Pick.tail | apply Pick.app))))) (by (first | rfl | assumption | (simp; done) | omega))) rfl rfl ?_)
                    all_goals (first | refine JL.gskip rfl rfl rfl rfl rfl rfl ?_ | refine JL.gskipU rfl rfl rfl rfl rfl ?_ | (refine JL.gloud rfl rfl rfl (l_callF e40 rfl rfl (same_spec E K2 K _ _ A.snap A.snap A.txs A.txs _ _ _ hB2 hBA (by (repeat (first | exact Pick.head | apply Pick.tail | apply Pick.app))) (by (repeat (first | exact Pick.head | apply Pick.tail | apply Pick.app))) hAb hAb hAtb hAtb (by omega) true (by simp)) ?_); rintro _ _ ⟨rfl, rfl⟩))
                    all_goals (first | refine JL.gskip rfl rfl rfl rfl rfl rfl ?_ | refine JL.gskipU rfl rfl rfl rfl rfl ?_ | refine JL.gstep rfl rfl rfl (y_not rfl) rfl rfl ?_)
                    all_goals (refine JL.step (y_pick rfl rfl rfl) rfl rfl rfl ?_)
                    all_goals (refine JL.step (y_move rfl) rfl rfl rfl ?_)
                    all_goals (first | (refine JL.gsplit_dec rfl rfl rfl (fun h => ?_) (fun h => ?_) <;> try (first | (exfalso; omega) | exact absurd rfl h)) | (refine JL.gsplit rfl rfl rfl (fun h => ?_) (fun h => ?_) <;> try (first | cases h | (exfalso; simp at h; done))) | skip)
                    all_goals (first | refine JL.gskip rfl rfl rfl rfl rfl rfl ?_ | refine JL.gskipU rfl rfl rfl rfl rfl ?_ | refine JL.gstep rfl rfl rfl (y_loadN hT rfl rfl rfl (by (first | exact RdN.rowAll (by (repeat (first | exact Pick.head | apply Pick.tail | apply Pick.app))) | exact RdN.own (by (repeat (first | exact Pick.head | apply Pick.tail | apply Pick.app))))) (by (first | rfl | assumption | (simp; done) | omega))) rfl rfl ?_)
                    all_goals (first | refine JL.gskip rfl rfl rfl rfl rfl rfl ?_ | refine JL.gskipU rfl rfl rfl rfl rfl ?_ | refine JL.gstep rfl rfl rfl (y_loadN hT rfl rfl rfl (by (first | exact RdN.rowAll (by (repeat (first | exact Pick.head | apply Pick.tail | apply Pick.app))) | exact RdN.own (by (repeat (first | exact Pick.head | apply Pick.tail | apply Pick.app))))) (by (first | rfl | assumption | (simp; done) | omega))) rfl rfl ?_)
                    all_goals (first | refine JL.gskip rfl rfl rfl rfl rfl rfl ?_ | refine JL.gskipU rfl rfl rfl rfl rfl ?_ | (refine JL.gloud rfl rfl rfl (l_callF e40 rfl rfl (same_spec E K2 K _ _ _ L.snap _ L.txs _ _ _ hB2 hBK (by (repeat (first | exact Pick.head | apply Pick.tail | apply Pick.app))) (by (repeat (first | exact Pick.head | apply Pick.tail | apply Pick.app))) hcb hLb hctb hLtb (by omega) _ hbe) ?_); rintro _ _ ⟨rfl, rfl⟩))
                    all_goals (first | refine JL.gskip rfl rfl rfl rfl rfl rfl ?_ | refine JL.gskipU rfl rfl rfl rfl rfl ?_ | refine JL.gstep rfl rfl rfl (y_not rfl) rfl rfl ?_)
                    all_goals (first | refine JL.gskip rfl rfl rfl rfl rfl rfl ?_ | refine JL.gskipU rfl rfl rfl rfl rfl ?_ | refine JL.gstep rfl rfl rfl (y_move rfl) rfl rfl ?_)
                    all_goals (first | (refine JL.gsplit_dec rfl rfl rfl (fun h => ?_) (fun h => ?_) <;> try (first | (exfalso; omega) | exact absurd rfl h)) | (refine JL.gsplit rfl rfl rfl (fun h => ?_) (fun h => ?_) <;> try (first | cases h | (exfalso; simp at h; done))) | skip)
                    all_goals (first | refine JL.gskip rfl rfl rfl rfl rfl rfl ?_ | refine JL.gskipU rfl rfl rfl rfl rfl ?_ | refine JL.gstep rfl rfl rfl (y_loadN hT rfl rfl rfl (by (first | exact RdN.rowAll (by (repeat (first | exact Pick.head | apply Pick.tail | apply Pick.app))) | exact RdN.own (by (repeat (first | exact Pick.head | apply Pick.tail | apply Pick.app))))) (by (first | rfl | assumption | (simp; done) | omega))) rfl rfl ?_)
                    all_goals (first | refine JL.gskip rfl rfl rfl rfl rfl rfl ?_ | refine JL.gskipU rfl rfl rfl rfl rfl ?_ | refine JL.gstep rfl rfl rfl (y_loadN hT rfl rfl rfl (by (first | exact RdN.rowAll (by (repeat (first | exact Pick.head | apply Pick.tail | apply Pick.app))) | exact RdN.own (by (repeat (first | exact Pick.head | apply Pick.tail | apply Pick.app))))) (by (first | rfl | assumption | (simp; done) | omega))) rfl rfl ?_)
                    all_goals (first | refine JL.gskip rfl rfl rfl rfl rfl rfl ?_ | refine JL.gskipU rfl rfl rfl rfl rfl ?_ | (refine JL.gloud rfl rfl rfl (l_callF e40 rfl rfl (same_spec E K2 K _ _ _ A.snap _ A.txs _ _ _ hB2 hBA (by (repeat (first | exact Pick.head | apply Pick.tail | apply Pick.app))) (by (repeat (first | exact Pick.head | apply Pick.tail | apply Pick.app))) hcb hAb hctb hAtb (by omega) true (hbt rfl)) ?_); rintro _ _ ⟨rfl, rfl⟩))
                    all_goals (first | refine JL.gskip rfl rfl rfl rfl rfl rfl ?_ | refine JL.gskipU rfl rfl rfl rfl rfl ?_ | refine JL.gstep rfl rfl rfl (y_not rfl) rfl rfl ?_)
                    all_goals (first | refine JL.gskip rfl rfl rfl rfl rfl rfl ?_ | refine JL.gskipU rfl rfl rfl rfl rfl ?_ | refine JL.gstep rfl rfl rfl (y_pick rfl rfl rfl) rfl rfl ?_)
                    all_goals (refine JL.step (y_pick rfl rfl rfl) rfl rfl rfl ?_)
                    all_goals refine JL.nil ?_
                  all_goals refine JE.then_normal ?_
                  all_goals
                    refine J.cond_f rfl (by (first | rfl | assumption | (simp; done) | (simp; omega))) ?_
                    refine J.skip ?_
                  all_goals refine JE.then_normal ?_
                  all_goals
                    refine J.seq ?_
                    refine J.region ?_
                    refine JL.step (y_move rfl) rfl rfl rfl ?_
                    refine JL.loud rfl (l_callF e30 rfl rfl (Fc.on (Split.cons (by (repeat (first | exact Pick.head | apply Pick.tail | apply Pick.app))) Split.nil) (again_spec E d _ hLc h64)) ?_)
                    rintro _ _ ⟨lg3, st3, rfl, rfl⟩
                    refine JL.step (y_move rfl) rfl rfl rfl (JL.step (y_extract rfl rfl) rfl rfl rfl (JL.step (y_extract rfl rfl) rfl rfl rfl (JL.step (y_assign rfl) rfl rfl rfl (JL.step (y_assign rfl) rfl rfl rfl ?_))))
                    refine JL.nil ?_
                    refine JE.then_normal ?_
                    refine J.seq ?_
                    refine J.seq ?_
                    refine J.draw _ _ [(0, .q), (1, .q), (2, .q), (3, .q), (5, .q), (4, .l), (6, .e), (7, .q), (8, .q)] mixed (by kernel_rfl) (Split.cons (Pick.head) (Split.nil)) ?_
                    refine JM.quiet rfl rfl rfl rfl (fun m => y_move rfl) ?_
                    refine JM.quiet rfl rfl rfl rfl (fun m => y_not rfl) ?_
                    refine JM.quiet rfl rfl rfl rfl (fun m => y_move rfl) ?_
                    all_goals (first | refine JM.gskip rfl rfl rfl rfl rfl rfl rfl ?_ | refine JM.gskipU rfl rfl rfl rfl rfl rfl ?_ | refine JM.gquiet rfl rfl rfl rfl rfl rfl (fun m => y_move rfl) ?_)
                    all_goals (first | refine JM.gskip rfl rfl rfl rfl rfl rfl rfl ?_ | refine JM.gskipU rfl rfl rfl rfl rfl rfl ?_ | refine JM.gquiet rfl rfl rfl rfl rfl rfl (fun m => y_loadN hT rfl rfl rfl (by (first | exact RdN.rowAll (Pick.app m (by (repeat (first | exact Pick.head | apply Pick.tail | apply Pick.app)))) | exact RdN.own (Pick.app m (by (repeat (first | exact Pick.head | apply Pick.tail | apply Pick.app)))))) (by (first | rfl | assumption | (simp; done) | omega))) ?_)
                    refine JM.gloud rfl rfl rfl rfl (fun fr => l_callF e39 rfl rfl (of_spec E lg3 st3 _ _) ?_)
                    rintro _ _ ⟨cs4, K4, rfl, hB4, rfl⟩
                    refine ⟨[_, _], (by (repeat (first | exact Split.nil | exact Split.all | refine Split.cons Pick.head ?_))), ?_⟩
                    refine JM.gearly rfl rfl rfl rfl rfl rfl (fun fr => y_callF e40 rfl (same_spec E K4 K2 cs4 _ _ _ _ _ _ _ _ hB4 hB2 (by (repeat (first | exact Pick.head | apply Pick.tail | apply Pick.app))) (by (repeat (first | exact Pick.head | apply Pick.tail | apply Pick.app))) hcb hcb hctb hctb (by omega) true (decide_eq_true ⟨rfl, rfl⟩))) ?_
                    all_goals (first | refine JM.gskip rfl rfl rfl rfl rfl rfl rfl ?_ | refine JM.gskipU rfl rfl rfl rfl rfl rfl ?_ | refine JM.gquiet rfl rfl rfl rfl rfl rfl (fun m => y_not rfl) ?_)
                    all_goals refine JM.quiet rfl rfl rfl rfl (fun m => y_pick rfl rfl rfl) ?_
                    all_goals refine JM.nil ?_
                    all_goals refine JE.then_normal ?_
                    all_goals
                      refine J.cond_f rfl (by (first | rfl | assumption | (simp; done) | (simp; omega))) ?_
                      refine J.skip ?_
                    all_goals refine JE.then_normal ?_
                    all_goals
                      refine J.seq ?_
                      refine J.seq ?_
                      obtain ⟨L3, D3, e3, eA3, hL3, hd3, hor3⟩ := hLc.put hmore
                      rcases hor3 with ⟨_, rfl, hL3e⟩ | ⟨hno, rfl, rfl, rfl⟩
                      all_goals
                        refine J.region ?_
                        refine JL.step (y_move rfl) rfl rfl rfl ?_
                        refine JL.loud rfl (l_buildSliceP (cs := ints .u8 [109, 111, 114, 101]) hT rfl rfl rfl rfl rfl rfl rfl (fill_b4 _ _ _ _ _) rfl (fun b19 => ?_))
                        refine JL.loud rfl (l_convBytes hT rfl rfl rfl rfl rfl (by (repeat (first | exact Pick.head | apply Pick.tail | apply Pick.app))) rfl ?_)
                        refine JL.loud rfl (l_callF e19 rfl rfl (Fc.on (Split.cons (by (repeat (first | exact Pick.head | apply Pick.tail | apply Pick.app))) (Split.cons (by (repeat (first | exact Pick.head | apply Pick.tail | apply Pick.app))) (Split.cons (by (repeat (first | exact Pick.head | apply Pick.tail | apply Pick.app))) Split.nil))) (append_lh E lg3 st3 d _ hLc [109, 111, 114, 101] _ _ 4 rfl hmore (by omega) eA3 (InL.ofMrow (by (repeat (first | exact Pick.head | apply Pick.tail | apply Pick.app))) (by decide)))) ?_)
                        rintro _ _ ⟨rfl, rfl⟩
                        refine JL.step (y_eql rfl rfl) rfl rfl rfl ?_
                        refine JL.nil ?_
                      all_goals refine JE.then_normal ?_
                      all_goals
                        focus
                          first | apply J.cond_dec rfl | apply J.cond rfl
                          focus
                            intro h
                            try (first | (exfalso; omega) | (cases h; done) | (exfalso; simp at h; done) | subst h)
                            all_goals
                              refine J.seq ?_
                              refine J.region ?_
                              refine JL.step (y_move rfl) rfl rfl rfl ?_
                              refine JL.loud rfl (l_callF e30 rfl rfl (Fc.on (Split.cons (by (repeat (first | exact Pick.head | apply Pick.tail | apply Pick.app))) Split.nil) (again_spec E d _ hL3 (by omega))) ?_)
                              rintro _ _ ⟨lg5, st5, rfl, rfl⟩
                              refine JL.step (y_move rfl) rfl rfl rfl (JL.step (y_extract rfl rfl) rfl rfl rfl (JL.step (y_extract rfl rfl) rfl rfl rfl (JL.step (y_assign rfl) rfl rfl rfl (JL.step (y_assign rfl) rfl rfl rfl ?_))))
                              refine JL.nil ?_
                              refine JE.then_normal ?_
                              refine J.seq ?_
                              refine J.draw _ _ [(0, .q), (1, .q), (2, .q), (5, .q), (6, .q), (7, .q), (8, .q), (3, .l), (4, .q), (9, .q), (10, .q), (11, .q)] mixed (by kernel_rfl) (Split.cons (Pick.head) (Split.nil)) ?_
                              refine JM.quiet rfl rfl rfl rfl (fun m => y_move rfl) ?_
                              refine JM.quiet rfl rfl rfl rfl (fun m => y_move rfl) ?_
                              all_goals (first | refine JM.gskip rfl rfl rfl rfl rfl rfl rfl ?_ | refine JM.gskipU rfl rfl rfl rfl rfl rfl ?_ | refine JM.gquiet rfl rfl rfl rfl rfl rfl (fun m => y_move rfl) ?_)
                              all_goals (first | refine JM.gskip rfl rfl rfl rfl rfl rfl rfl ?_ | refine JM.gskipU rfl rfl rfl rfl rfl rfl ?_ | refine JM.gquiet rfl rfl rfl rfl rfl rfl (fun m => y_fieldAddr hT rfl rfl rfl rfl rfl rfl) ?_)
                              all_goals (first | refine JM.gskip rfl rfl rfl rfl rfl rfl rfl ?_ | refine JM.gskipU rfl rfl rfl rfl rfl rfl ?_ | refine JM.gquiet rfl rfl rfl rfl rfl rfl (fun m => y_load1 hT rfl rfl rfl (by (exact Rd1.row (Pick.app m (by (repeat (first | exact Pick.head | apply Pick.tail | apply Pick.app)))) (by rfl)))) ?_)
                              all_goals (first | refine JM.gskip rfl rfl rfl rfl rfl rfl rfl ?_ | refine JM.gskipU rfl rfl rfl rfl rfl rfl ?_ | refine JM.gquiet rfl rfl rfl rfl rfl rfl (fun m => y_len_slice hT rfl rfl rfl) ?_)
                              all_goals (first | refine JM.gskip rfl rfl rfl rfl rfl rfl rfl ?_ | refine JM.gskipU rfl rfl rfl rfl rfl rfl ?_ | refine JM.gquiet rfl rfl rfl rfl rfl rfl (fun m => y_add rfl rfl (by (first | exact wrap_i64 (by omega) (by omega) | rfl))) ?_)
                              refine JM.gloud rfl rfl rfl rfl (fun fr => l_callF e24 rfl rfl (ltxs_len1 E lg5 st5 L3 (A.txs.length + 1) _ (by rw [hL3e]; simp)) ?_)
                              rintro _ _ ⟨ua, uc, K5, rfl, rfl⟩
                              refine ⟨[_, _], (by (repeat (first | exact Split.nil | exact Split.all | refine Split.cons Pick.head ?_))), ?_⟩
                              all_goals (first | refine JM.gskip rfl rfl rfl rfl rfl rfl rfl ?_ | refine JM.gskipU rfl rfl rfl rfl rfl rfl ?_ | refine JM.gquiet rfl rfl rfl rfl rfl rfl (fun m => y_len_slice hT rfl rfl rfl) ?_)
                              all_goals (first | refine JM.gskip rfl rfl rfl rfl rfl rfl rfl ?_ | refine JM.gskipU rfl rfl rfl rfl rfl rfl ?_ | refine JM.gquiet rfl rfl rfl rfl rfl rfl (fun m => y_eql rfl rfl) ?_)
                              all_goals refine JM.quiet rfl rfl rfl rfl (fun m => y_pick rfl rfl rfl) ?_
                              all_goals refine JM.quiet rfl rfl rfl rfl (fun m => y_assign rfl) ?_
                              all_goals refine JM.nil ?_
                              all_goals refine JE.then_normal ?_
                              all_goals
                                refine J.ret ?_
                                refine JE.then_ret ?_
                                refine JE.ret1 (.inl rfl) rfl rfl (by (first | exact RV.tmp rfl | exact RV.cell1 hT rfl rfl rfl (by (exact Rd1.row (by (repeat (first | exact Pick.head | apply Pick.tail | apply Pick.app))) (by rfl))) | exact RV.cellN hT rfl rfl rfl (by (first | exact RdN.rowAll (by (repeat (first | exact Pick.head | apply Pick.tail | apply Pick.app))) | exact RdN.own (by (repeat (first | exact Pick.head | apply Pick.tail | apply Pick.app))))) (by (first | rfl | assumption | (simp; done) | omega)))) ?_
                                refine ⟨by first | rfl | (simp; done), fun w q => ?_⟩
                                exact (Sat.keptR (A := stars [KA, K1]) (B := K0) (by rw [← hK] at q; exact q) (by (repeat (first | exact Pick.head | apply Pick.tail | apply Pick.app)))).sup (by (repeat (first | exact Sup.refl | apply Sup.cons (by (repeat (first | exact Pick.head | apply Pick.tail | apply Pick.app))) | apply Sup.app | apply Sup.skip | apply Sup.skips)))
                          rotate_right 1
                          focus
                            intro h
                            try (first | (exfalso; omega) | (cases h; done) | (exfalso; simp at h; done) | subst h)
                            all_goals
                              refine J.skip ?_
                      all_goals refine JE.then_normal ?_
                      all_goals
                        refine J.seq ?_
                        refine J.region ?_
                        refine JL.step (y_move rfl) rfl rfl rfl ?_
                        refine JL.loud rfl (l_callF e16 rfl rfl (Fc.on (Split.cons (by (repeat (first | exact Pick.head | apply Pick.tail | apply Pick.app))) (Split.cons (by (repeat (first | exact Pick.head | apply Pick.tail | apply Pick.app))) (Split.cons (by (repeat (first | exact Pick.head | apply Pick.tail | apply Pick.app))) Split.nil))) (room_no E lg3 st3 d hLc 4 (by decide) hno _)) ?_)
                        rintro _ _ ⟨rfl, rfl⟩
                        refine JL.step (y_not rfl) rfl rfl rfl (JL.step (y_assign rfl) rfl rfl rfl ?_)
                        refine JL.nil ?_
                        refine JE.then_normal ?_
                        refine J.ret ?_
                        refine JE.ret1 (.inl rfl) rfl rfl (by (first | exact RV.tmp rfl | exact RV.cell1 hT rfl rfl rfl (by (exact Rd1.row (by (repeat (first | exact Pick.head | apply Pick.tail | apply Pick.app))) (by rfl))) | exact RV.cellN hT rfl rfl rfl (by (first | exact RdN.rowAll (by (repeat (first | exact Pick.head | apply Pick.tail | apply Pick.app))) | exact RdN.own (by (repeat (first | exact Pick.head | apply Pick.tail | apply Pick.app))))) (by (first | rfl | assumption | (simp; done) | omega)))) ?_
                        refine ⟨by first | rfl | (simp; done), fun w q => ?_⟩
                        exact (Sat.keptR (A := stars [KA, K1]) (B := K0) (by rw [← hK] at q; exact q) (by (repeat (first | exact Pick.head | apply Pick.tail | apply Pick.app)))).sup (by (repeat (first | exact Sup.refl | apply Sup.cons (by (repeat (first | exact Pick.head | apply Pick.tail | apply Pick.app))) | apply Sup.app | apply Sup.skip | apply Sup.skips)))
    all_goals refine JE.then_normal ?_
    all_goals
      refine J.seq ?_
      refine J.block ?_
      refine J.seq ?_
      have hlt : i < m0 := by omega
      obtain ⟨go, oo, rfl, hro⟩ := hin.addr (by omega)
      have hro0 : RdN [K0] go oo (xs.flatMap opE) := hro []
      obtain ⟨u, hu⟩ : ∃ u, xs[i]? = some u := ⟨_, List.getElem?_eq_getElem (by omega)⟩
      have hok := hx u (List.mem_of_getElem? hu)
      obtain ⟨y, hy⟩ : ∃ y, u.b = y := ⟨_, rfl⟩
      obtain ⟨yp, hyp⟩ : ∃ yp, u.p = yp := ⟨_, rfl⟩
      obtain ⟨yc, hyc⟩ : ∃ yc, u.c = yc := ⟨_, rfl⟩
      have hysm : Small y := by rw [← hy]; exact hok.small
      have hyin : InL [K0] yp y.length yc (ints .u8 y) := by rw [← hy, ← hyp, ← hyc]; exact hok.binl
      have cbytes2 : ∀ l, Fc prog E 32 [.agg (opE u).toArray].toArray l (fun v l' => v = .slice yp y.length yc ∧ l' = l) := fun l => by rw [← hy, ← hyp, ← hyc]; exact bytes12_spec E u l [K0] hok
      have hel : (opE u).length = 2 := rfl
      have heo := opE_one u
      refine J.region ?_
      refine JL.step (y_indexAddr_slice hT rfl rfl rfl rfl rfl (by (first | omega | exact Nat.le_of_ble_eq_true rfl | decide | (simp; omega))) (by (first | omega | exact Nat.le_of_ble_eq_true rfl | decide | (simp; omega)))) rfl rfl rfl ?_
      refine JL.step (y_loadN hT rfl rfl rfl (RdN.elem (by (repeat (first | assumption | apply RdN.cons | apply RdN.app))) hone hu) hel) rfl rfl rfl ?_
      refine JL.loud rfl (l_alloc hT rfl rfl (by (first | rfl | simp)) rfl (fun b35 => ?_))
      refine JL.loud rfl (l_storeAll hT rfl rfl rfl (by (first | rfl | assumption | (simp; done) | omega)) (by (first | assumption | exact ones_of rfl | exact encW_one _ | exact encB_one _ | (intro u hu; simp at hu; rcases hu with rfl | rfl <;> rfl) | (intro u hu; simp at hu; subst hu; rfl) | simp)) (by (repeat (first | exact Pick.head | apply Pick.tail | apply Pick.app))) (by (first | rfl | assumption | (simp; done) | omega)) ?_)
      refine JL.nil ?_
      refine JE.then_normal ?_
      refine J.seq ?_
      refine J.region ?_
      refine JL.step (y_loadN hT rfl rfl rfl (by (first | exact RdN.rowAll (by (repeat (first | exact Pick.head | apply Pick.tail | apply Pick.app))) | exact RdN.own (by (repeat (first | exact Pick.head | apply Pick.tail | apply Pick.app))))) (by (first | rfl | assumption | (simp; done) | omega))) rfl rfl rfl ?_
      refine JL.loud rfl (l_callF e33 rfl rfl (kind12_spec E u _) ?_)
      rintro _ _ ⟨rfl, rfl⟩
      refine JL.nil ?_
      refine JE.then_normal ?_
      refine J.block ?_
      refine J.seq ?_
      refine J.region ?_
      refine JL.step (y_eql rfl rfl) rfl rfl rfl (JL.step (y_assign rfl) rfl rfl rfl ?_)
      refine JL.nil ?_
      refine JE.then_normal ?_
      focus
        first | apply J.cond_dec rfl | apply J.cond rfl
        focus
          intro h
          try (first | (exfalso; omega) | (cases h; done) | (exfalso; simp at h; done) | subst h)
          all_goals
            obtain ⟨L', D', e, eA, hL', hd', hor⟩ := hL.put hysm
            have hA : L'.txs.length ≤ i + 1 := by
              rcases hor with ⟨_, _, h3⟩ | ⟨_, _, h3, _⟩
              · rw [h3]; simp; omega
              · rw [h3]; omega
            refine J.region ?_
            refine JL.step (y_move rfl) rfl rfl rfl ?_
            refine JL.step (y_loadN hT rfl rfl rfl (by (first | exact RdN.rowAll (by (repeat (first | exact Pick.head | apply Pick.tail | apply Pick.app))) | exact RdN.own (by (repeat (first | exact Pick.head | apply Pick.tail | apply Pick.app))))) (by (first | rfl | assumption | (simp; done) | omega))) rfl rfl rfl ?_
            refine JL.loud rfl (l_callF e32 rfl rfl (cbytes2 _) ?_)
            rintro _ _ ⟨rfl, rfl⟩
            refine JL.loud rfl (l_callF e19 rfl rfl (Fc.on (Split.cons (by (repeat (first | exact Pick.head | apply Pick.tail | apply Pick.app))) (Split.cons (by (repeat (first | exact Pick.head | apply Pick.tail | apply Pick.app))) (Split.cons (by (repeat (first | exact Pick.head | apply Pick.tail | apply Pick.app))) Split.nil))) (append_lh E lg st d _ hL y yp yc y.length rfl hysm (by omega) eA (hyin.kept (by (repeat (first | exact Pick.head | apply Pick.tail | apply Pick.app)))))) ?_)
            rintro _ _ ⟨rfl, rfl⟩
            refine JL.nil ?_
        rotate_right 1
        focus
          intro h
          try (first | (exfalso; omega) | (cases h; done) | (exfalso; simp at h; done) | subst h)
          all_goals
            refine J.seq ?_
            refine J.region ?_
            refine JL.step (y_eql rfl rfl) rfl rfl rfl (JL.step (y_assign rfl) rfl rfl rfl ?_)
            refine JL.nil ?_
            refine JE.then_normal ?_
            focus
              first | apply J.cond_dec rfl | apply J.cond rfl
              focus
                intro h
                try (first | (exfalso; omega) | (cases h; done) | (exfalso; simp at h; done) | subst h)
                all_goals
                  obtain ⟨L', S', D', e, eC, hL', hd', hor⟩ := hL.take hysm (by omega)
                  have hC : L'.txs.length ≤ i + 1 ∧ S'.turn.toNat ≤ i + 1 := by
                    rcases hor with ⟨_, _, h3, h4⟩ | ⟨_, _, h3, h4, _⟩
                    · rw [h3, h4, next_turn (by omega)]; exact ⟨Nat.zero_le _, by omega⟩
                    · rw [h3, h4]; exact ⟨by omega, by omega⟩
                  refine J.region ?_
                  refine JL.step (y_move rfl) rfl rfl rfl ?_
                  refine JL.step (y_loadN hT rfl rfl rfl (by (first | exact RdN.rowAll (by (repeat (first | exact Pick.head | apply Pick.tail | apply Pick.app))) | exact RdN.own (by (repeat (first | exact Pick.head | apply Pick.tail | apply Pick.app))))) (by (first | rfl | assumption | (simp; done) | omega))) rfl rfl rfl ?_
                  refine JL.loud rfl (l_callF e32 rfl rfl (cbytes2 _) ?_)
                  rintro _ _ ⟨rfl, rfl⟩
                  refine JL.loud rfl (l_callF e18 rfl rfl (Fc.on (Split.cons (by (repeat (first | exact Pick.head | apply Pick.tail | apply Pick.app))) (Split.cons (by (repeat (first | exact Pick.head | apply Pick.tail | apply Pick.app))) (Split.cons (by (repeat (first | exact Pick.head | apply Pick.tail | apply Pick.app))) Split.nil))) (check_lh E lg st d _ hL y yp yc y.length rfl hysm eC (hyin.kept (by (repeat (first | exact Pick.head | apply Pick.tail | apply Pick.app)))))) ?_)
                  rintro _ _ ⟨rfl, rfl⟩
                  refine JL.nil ?_
              rotate_right 1
              focus
                intro h
                try (first | (exfalso; omega) | (cases h; done) | (exfalso; simp at h; done) | subst h)
                all_goals
                  have hO := hlt
                  refine J.skip ?_
      all_goals refine JE.block_normal ?_
      all_goals refine JE.block_normal ?_
      all_goals refine JE.then_normal ?_
      all_goals
        refine J.region ?_
        refine JL.step (y_add rfl rfl (by (first | exact wrap_i64 (by omega) (by omega) | rfl))) rfl rfl rfl ?_
        refine JL.step (y_move rfl) rfl rfl rfl ?_
        refine JL.nil ?_
    all_goals
      first
        | (have zz := hA
           exact JE.round (s := (i, S, D, L)) (i + 1, S, D', L') ⟨by dsimp only; omega, hL', hd'.trans hl, hA, by dsimp only; omega⟩ ⟨rfl, rfl, rfl, rfl, rfl, rfl, rfl, trivial⟩ (fun w q => q.sup (by (repeat (first | exact Sup.refl | apply Sup.cons (by (repeat (first | exact Pick.head | apply Pick.tail | apply Pick.app))) | apply Sup.app | apply Sup.skip | apply Sup.skips)))) (by dsimp only; omega))
        | (have zz := hC
           exact JE.round (s := (i, S, D, L)) (i + 1, S', D', L') ⟨by dsimp only; omega, hL', hd'.trans hl, hC.1, hC.2⟩ ⟨rfl, rfl, rfl, rfl, rfl, rfl, rfl, trivial⟩ (fun w q => q.sup (by (repeat (first | exact Sup.refl | apply Sup.cons (by (repeat (first | exact Pick.head | apply Pick.tail | apply Pick.app))) | apply Sup.app | apply Sup.skip | apply Sup.skips)))) (by dsimp only; omega))
        | (have zz := hO
           exact JE.round (s := (i, S, D, L)) (i + 1, S, D, L) ⟨by dsimp only; omega, hL, hl, by dsimp only; omega, by dsimp only; omega⟩ ⟨rfl, rfl, rfl, rfl, rfl, rfl, rfl, trivial⟩ (fun w q => q.sup (by (repeat (first | exact Sup.refl | apply Sup.cons (by (repeat (first | exact Pick.head | apply Pick.tail | apply Pick.app))) | apply Sup.app | apply Sup.skip | apply Sup.skips)))) (by dsimp only; omega))
  -- UNUSED OPTIONS: call hollowtreelaw12.same@R24.10, call hollowtreelaw12.same@R41.6
end
section
open Go.ChangeShapes Go.WideShapes Go.ChangeAt Go.RowKit
set_option maxRecDepth 100000 in
theorem tr_bools12 {H : Type} {enc : TypeId × Value → H} {w : World} {ok : DataW H → Prop} {L : Nat → Prop} {v : Value} (her : Her ok L) (h : Tr enc prog ok w 70 [v]) : ∃ (p : Option Addr) (cap : Nat) (bs : List Bool), v = .slice p bs.length cap ∧ L bs.length ∧ InW w p bs.length cap (bs.map Value.bool) := by
  obtain ⟨p, cap, xs, h1, hL, _, h2⟩ := Tr.slice (encA := fun b => [Value.bool b]) (okA := fun _ => True) (k := 1) her u70 (by kernel_rfl) (by decide) (fun _ _ => rfl) (fun cs hc => by
    obtain ⟨b, hb⟩ := Tr.bool u4 hc
    exact ⟨b, hb, trivial⟩) h
  have e := flatMap_one Value.bool xs
  exact ⟨p, cap, xs, h1, hL, e ▸ h2⟩
set_option maxRecDepth 100000 in
theorem tr_cut12 {H : Type} {enc : TypeId × Value → H} {w : World} {ok : DataW H → Prop} {L : Nat → Prop} {cs : List Value} (her : Her ok L) (h : Tr enc prog ok w 72 cs) :
    ∃ (a : Int) (kp : Option Addr) (kc : Nat) (keep : List Bool), cs = [.int .i64 a, .slice kp keep.length kc] ∧ L keep.length ∧ InW w kp keep.length kc (keep.map Value.bool) := by
  obtain ⟨hl, hf⟩ := Tr.struct her u72 h
  rw [show prog.cellsOf 72 = 2 by kernel_rfl] at hl
  match cs, hl with
  | [a, d], _ =>
    have h0 := hf 0 _ rfl
    have h3 := hf 1 _ rfl
    dsimp only at h0 h3
    rw [show prog.cellsOf 3 = 1 by kernel_rfl] at h0
    rw [show prog.cellsOf 70 = 1 by kernel_rfl] at h3
    obtain ⟨k, e0, _⟩ := Tr.int u3 h0
    obtain ⟨p, cap, bs, e3, l3, r3⟩ := tr_bools12 her h3
    cases e0; cases e3
    exact ⟨k, p, cap, bs, rfl, l3, r3⟩
theorem wal_cuts_reads : ∀ t ∈ Try.f10.params.toList, Try.prog.readableRec t = true ∧ t < Try.prog.types.size := by
  rw [Try.params10]
  intro t ht
  simp only [List.mem_cons, List.not_mem_nil, or_false] at ht
  rcases ht with rfl | rfl | rfl
  all_goals exact ⟨by kernel_rfl, of_decide_eq_true (by kernel_rfl)⟩
set_option maxRecDepth 100000 in
theorem wal_cuts_contract (H : Type) (enc : TypeId × Value → H) (W : World) (base : Nat) (args : Array Value) (ds gs : List (DataW H)) (before : List MemPlace)
    (hval : ∀ (j : Nat) t v, Try.f10.params[j]? = some t → args[j]? = some v → Value.okWide Try.prog W .any base t v)
    (hW : DataW.Whole enc Try.prog Try.f10.params.toList Rows.walCutsSpec.vars false W args.toList ds gs before) (hk : Rows.uptoSmall H (ds ++ gs) = true) :
    Calls Try.prog 10 args W fun e W' => ∃ v, e = .returned v ∧ Rows.walCutsSpec.post enc Try.prog Try.f10 false true false false W args v W' := by
  have hW' := hW
  obtain ⟨p, q, hA0, hV, rfl, hfz, hnd⟩ := hW
  have hA : DataW.TrodAll enc Try.prog W 0 (fun _ => true) true Try.f10.params.toList args.toList ds p := hA0
  rw [Try.params10] at hA hval
  obtain ⟨v0, vs0, d0, ds0, p0, q0, hargs, rfl, rfl, h0, r0⟩ := trodAll_cons hA
  obtain ⟨v1, vs1, d1, ds1, p1, q1, rfl, rfl, rfl, h1, r1⟩ := trodAll_cons r0
  obtain ⟨v2, vs2, d2, ds2, p2, q2, rfl, rfl, rfl, h2, r2⟩ := trodAll_cons r1
  obtain ⟨rfl, rfl, rfl⟩ := trodAll_nil r2
  obtain rfl : args = #[v0, v1, v2] := by cases args; simp_all
  obtain ⟨rfl, rfl⟩ := trodVars_none hV
  clear hA0
  have t0 : Tr enc prog upOk W 58 [v0] := Tr.ofSlice u58 (hval 0 58 v0 rfl rfl) h0 (upOk_of hk d0 (by simp))
  obtain ⟨cs1, rfl, t1⟩ := Tr.ofStruct (ok := upOk) u61 (hval 1 61 v1 rfl rfl) h1 (upOk_of hk d1 (by simp))
  obtain ⟨cs2, rfl, t2⟩ := Tr.ofStruct (ok := upOk) u72 (hval 2 72 v2 rfl rfl) h2 (upOk_of hk d2 (by simp))
  obtain ⟨p, c, xs, rfl, hx, hin⟩ := tr_ops12 upHer t0
  obtain ⟨o, rfl, ho, _⟩ := tr_op12 upHer t1
  obtain ⟨at_, kp, kc, keep, rfl, hkn, hin3⟩ := tr_cut12 upHer t2
  refine ((wal_cuts W p c xs o at_ kp kc keep (old W) (hin.inl []) hx ho (hin3.inl []) (by omega)) W (Sat.start W)).mono fun e W' hq => ?_
  obtain ⟨v, l', rfl, hs, rfl, rfl⟩ := hq
  exact ⟨_, rfl, law_post laidOut_ rfl rfl u4 wal_cuts_reads hW' rfl rfl rfl hs.below⟩
set_option maxRecDepth 100000 in
theorem wal_cuts_lifted (os : Os) (started : os.Started) (H : Type) (enc : TypeId × Value → H) (F : Stop.Interp) :
    ReturnsInHanded {} Try.checked os 10 .any ((Rows.OpenSpec.upto Rows.walCutsSpec).pre6 enc Try.prog Try.f10 Rows.walCutsUptoRow.domain false) (((Rows.OpenSpec.upto Rows.walCutsSpec).at F).post enc Try.prog Try.f10 false true false false) := by
  refine returnsInHanded_of_cond (C := Try.checked) (s := Rows.OpenSpec.upto Rows.walCutsSpec) (k := Rows.uptoSmall) rfl own_ started (by kernel_rfl) Try.func10
    (OpenSpec.witness (enc := enc) (C := Try.checked) (s := Rows.OpenSpec.upto Rows.walCutsSpec) (k := Rows.uptoSmall) rfl false ⟨#[], #[.slice none 0 0, .agg #[.int .i64 0, .slice none 0 0], .agg #[.int .i64 0, .slice none 0 0]], []⟩ 8 (by kernel_rfl) (by kernel_rfl) (by kernel_rfl)
      (x := ([.nil, .agg [.lit (.int .i64 0), .nil], .agg [.lit (.int .i64 0), .nil]], [], [])) (by kernel_rfl) rfl (by kernel_rfl)) ?_
  intro W base args ds gs before hval hW _ hk _
  exact wal_cuts_contract H enc W base args ds gs before hval hW hk
theorem wal_cuts_holds : Rows.WalCutsUptoSaid :=
  OpenClaim.holds_of_cond 10 Try.f10 rfl rfl rfl rfl rfl rfl rfl ⟨rfl, rfl, rfl, rfl, rfl⟩ rfl rfl rfl rfl rfl (by kernel_rfl) Try.func10 (by kernel_rfl)
    (of_decide_eq_true (by kernel_rfl)) (by unfold Func.isWrapper; first | (rw [if_pos (by decide +kernel)]; kernel_rfl) | (rw [if_neg (by decide +kernel)]; exact ⟨rfl, rfl⟩))
    (fun os started H enc _ F => wal_cuts_lifted os started H enc F)
end
end Go.Proofs.Ytmgagkpokmaefaa
