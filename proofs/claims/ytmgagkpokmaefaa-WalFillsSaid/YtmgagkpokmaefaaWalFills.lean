
/-
  hollowtreelaw12.WalFills returns true for every input, and leaves its input as it was. No condition.
-/
import Derived.Test.YtmgagkpokmaefaaJoin3
import Derived.Test.YtmgagkpokmaefaaJoin8
namespace Go.Proofs.Ytmgagkpokmaefaa
open Go Go.SL
section
attribute [local irreducible] J JL JE JM LS Y Fc RV Code.wp wpList Code.wpIn wpListIn
attribute [local irreducible] Yc
variable (E : World)
theorem wal_fills (n : Int) (r : List HProp) : Fc prog E 5 [.int .i64 n].toArray r (fun v l' => v = .bool true ∧ l' = r) := by
  refine Fc.eqs ?_
  obtain ⟨hL0, hl0⟩ := lh_format (n := storeN 0) (storeN_le 0).1 (by have := (storeN_le 0).2; omega)
  obtain ⟨D0, hD0⟩ : ∃ D0, (Dk.new (storeN 0)).formatted = D0 := ⟨_, rfl⟩
  rw [hD0] at hL0 hl0
  have hl64 : D0.safe.length = 64 := hl0
  have hD : ∀ {D : Dk}, D.safe.length = 64 → D.half = 15 ∧ D.slots = 32 := fun {D} h => by
    have h1 : D.half = 15 := by unfold Dk.half; rw [h]
    exact ⟨h1, by unfold Dk.slots; rw [h, h1]⟩
  have h2 := hL0.holds.fits.two
  obtain ⟨K0, hK0⟩ : ∃ K0, (BitVec.ofInt 64 n).toNat % 961 = K0 := ⟨_, rfl⟩
  have cslots : ∀ st d (D : Dk) l, D.safe.length = 64 → Fc prog E 17 [.pointer (some ⟨st, 0, none⟩)].toArray (row st 90 (scells sb0 d) :: disk d D :: l) (fun v l' => v = .int .i64 32 ∧ l' = row st 90 (scells sb0 d) :: disk d D :: l) := fun st d D l h => by
    have q := slots_spec E st d sb0 D l sb0_hash (by omega)
    rwa [(hD h).2] at q
  have croom : ∀ lg st d i (D : Dk) l, LH sb0 D (lgE i) → D.safe.length = 64 → i < 32 → Fc prog E 16 [.pointer (some ⟨lg, 0, none⟩), .int .i64 0].toArray (logm lg st (lgE i) :: row st 90 (scells sb0 d) :: disk d D :: l) (fun v l' => v = .bool true ∧ l' = logm lg st (lgE i) :: row st 90 (scells sb0 d) :: disk d D :: l) := fun lg st d i D l hL h hi => by
    have q := lroom_spec E lg st d (lgE i) sb0 D l sb0_hash (by omega) 0 (by decide)
    rwa [show roomB (lgE i) D 0 = true from (roomB_iff hL 0).2 (by show i + 1 ≤ _; rw [(hD h).2]; omega)] at q
  have cfull : ∀ lg st d (D : Dk) l, LH sb0 D (lgE 32) → D.safe.length = 64 → Fc prog E 16 [.pointer (some ⟨lg, 0, none⟩), .int .i64 0].toArray (logm lg st (lgE 32) :: row st 90 (scells sb0 d) :: disk d D :: l) (fun v l' => v = .bool false ∧ l' = logm lg st (lgE 32) :: row st 90 (scells sb0 d) :: disk d D :: l) := fun lg st d D l hL h => by
    have q := lroom_spec E lg st d (lgE 32) sb0 D l sb0_hash (by omega) 0 (by decide)
    rwa [show roomB (lgE 32) D 0 = false from Bool.eq_false_iff.2 (fun e => absurd ((roomB_iff hL 0).1 e) (by rw [(hD h).2]; show ¬ 32 + 1 ≤ 32; decide))] at q
  have capp : ∀ lg st d i (D D' : Dk) l, LH sb0 D (lgE i) → D.safe.length = 64 → i < 32 → appL (lgE i) sb0 D [] = (lgE (i + 1), D', 0) → Fc prog E 19 [.pointer (some ⟨lg, 0, none⟩), .slice none 0 0].toArray (logm lg st (lgE i) :: row st 90 (scells sb0 d) :: disk d D :: l) (fun v l' => v = .int .i64 0 ∧ l' = logm lg st (lgE (i + 1)) :: row st 90 (scells sb0 d) :: disk d D' :: l) := fun lg st d i D D' l hL h hi e => by
    have q := lappend_spec E lg st d (lgE i) sb0 D l sb0_hash (by omega) [] none 0 0 rfl small_nil (by rw [hL.holds.none]; decide) (by show (List.replicate i ([] : List Int)).length < 512; rw [List.length_replicate]; omega) InL.none12
    rwa [e] at q
  have cfapp : ∀ lg st d (D : Dk) l, LH sb0 D (lgE 32) → D.safe.length = 64 → Fc prog E 19 [.pointer (some ⟨lg, 0, none⟩), .slice none 0 0].toArray (logm lg st (lgE 32) :: row st 90 (scells sb0 d) :: disk d D :: l) (fun v l' => v = .int .i64 6 ∧ l' = logm lg st (lgE 32) :: row st 90 (scells sb0 d) :: disk d D :: l) := fun lg st d D l hL h => by
    have q := lappend_spec E lg st d (lgE 32) sb0 D l sb0_hash (by omega) [] none 0 0 rfl small_nil (by rw [hL.holds.none]; decide) (by show (List.replicate 32 ([] : List Int)).length < 512; decide) InL.none12
    rwa [appL_full hL (tx := []) (by rw [(hD h).2]; show ¬ 32 + 1 ≤ 32; decide)] at q
  have ctxs : ∀ lg st l, Fc prog E 24 [.pointer (some ⟨lg, 0, none⟩)].toArray (logm lg st (lgE 32) :: l) (fun v l' => ∃ a c k, v = .slice a 32 c ∧ l' = k ++ (logm lg st (lgE 32) :: l)) := fun lg st l => (ltxs_spec E lg st (lgE 32) l).mono fun v l' ⟨a, c, vals, e1, _, e2⟩ => ⟨a, c, _ :: owns vals (lgE 32).txs, e1, e2⟩
  obtain ⟨Z, hZ⟩ : ∃ Z, List.replicate K0 (0 : Int) = Z := ⟨_, rfl⟩
  have hZl : Z.length = K0 := by rw [← hZ, List.length_replicate]
  have hK961 : K0 < 961 := by omega
  have hZs : Small Z := ⟨by rw [← hZ]; exact Bytes.rep _, by omega⟩
  have croom2 : ∀ st d (D : Dk) l, D.safe.length = 64 → Fc prog E 25 [.pointer (some ⟨st, 0, none⟩)].toArray (row st 90 (scells sb0 d) :: disk d D :: l) (fun v l' => v = .int .i64 960 ∧ l' = row st 90 (scells sb0 d) :: disk d D :: l) := fun st d D l h => by
    have q := room_spec E st d sb0 D l sb0_hash (by omega)
    rwa [(hD h).1] at q
  have cused : ∀ lg st (i : Nat) l, Fc prog E 23 [.pointer (some ⟨lg, 0, none⟩)].toArray (logm lg st (lgE i) :: l) (fun v l' => v = .int .i64 (i : Int) ∧ l' = logm lg st (lgE i) :: l) := fun lg st i l => lused_spec E lg st (lgE i) l
  refine Fc.of_body (c := ?codeC) Try.func5 ?hb Try.ntmps5 ?hl ?_
  case hb => exact rfl
  case hl => exact rfl
  refine J.seq ?_
  refine J.region ?_
  refine JL.step (y_assign rfl) rfl rfl rfl ?_
  refine JL.nil ?_
  refine JE.then_normal ?_
  refine J.seq ?_
  refine J.seq ?_
  refine J.region ?_
  refine JL.loud rfl (l_callF e11 rfl rfl (wakes12_spec E _) ?_)
  rintro _ l1 ⟨rfl, e1⟩
  obtain rfl := e1.symm
  refine JL.step (y_not rfl) rfl rfl rfl ?_
  refine JL.nil ?_
  refine JE.then_normal ?_
  refine J.cond_f rfl (by (first | rfl | assumption | (simp; done) | (simp; omega))) ?_
  refine J.skip ?_
  refine JE.then_normal ?_
  refine J.seq ?_
  refine J.region ?_
  refine JL.loud rfl (l_callF e12 rfl rfl (store_spec E 0 _) ?_)
  rintro _ _ ⟨d, st, rfl, rfl⟩
  rw [hD0]
  refine JL.step (y_move rfl) rfl rfl rfl (JL.step (y_extract rfl rfl) rfl rfl rfl (JL.step (y_extract rfl rfl) rfl rfl rfl (JL.step (y_assign rfl) rfl rfl rfl (JL.step (y_assign rfl) rfl rfl rfl ?_))))
  refine JL.nil ?_
  refine JE.then_normal ?_
  refine J.seq ?_
  refine J.region ?_
  refine JL.step (y_move rfl) rfl rfl rfl ?_
  refine JL.loud rfl (l_callF e13 rfl rfl (Fc.on (Split.cons (by (repeat (first | exact Pick.head | apply Pick.tail | apply Pick.app))) (Split.cons (by (repeat (first | exact Pick.head | apply Pick.tail | apply Pick.app))) Split.nil)) (lopen_lh E st d sb0 D0 lg0 _ hL0)) ?_)
  rintro _ _ ⟨lg, rfl, rfl⟩
  refine JL.step (y_move rfl) rfl rfl rfl (JL.step (y_extract rfl rfl) rfl rfl rfl (JL.step (y_extract rfl rfl) rfl rfl rfl (JL.step (y_assign rfl) rfl rfl rfl (JL.step (y_assign rfl) rfl rfl rfl ?_))))
  refine JL.nil ?_
  refine JE.then_normal ?_
  refine J.seq ?_
  refine J.seq ?_
  refine J.region ?_
  refine JL.step (y_move rfl) rfl rfl rfl (JL.step (y_ptr_eq_nil hT rfl rfl rfl rfl) rfl rfl rfl (JL.step (y_move rfl) rfl rfl rfl ?_))
  all_goals (first | (refine JL.gsplit_dec rfl rfl rfl (fun h => ?_) (fun h => ?_) <;> try (first | (exfalso; omega) | exact absurd rfl h)) | (refine JL.gsplit rfl rfl rfl (fun h => ?_) (fun h => ?_) <;> try (first | cases h | (exfalso; simp at h; done))) | skip)
  all_goals (first | refine JL.gskip rfl rfl rfl rfl rfl rfl ?_ | refine JL.gskipU rfl rfl rfl rfl rfl ?_ | refine JL.gstep rfl rfl rfl (y_move rfl) rfl rfl ?_)
  all_goals (first | refine JL.gskip rfl rfl rfl rfl rfl rfl ?_ | refine JL.gskipU rfl rfl rfl rfl rfl ?_ | refine JL.gstep rfl rfl rfl (y_neq rfl rfl) rfl rfl ?_)
  all_goals (refine JL.step (y_pick rfl rfl rfl) rfl rfl rfl ?_)
  all_goals refine JL.nil ?_
  all_goals refine JE.then_normal ?_
  all_goals
    refine J.cond_f rfl (by (first | rfl | assumption | (simp; done) | (simp; omega))) ?_
    refine J.skip ?_
  all_goals refine JE.then_normal ?_
  all_goals
    refine J.seq ?_
    refine J.seq ?_
    refine J.region ?_
    refine JL.step (y_move rfl) rfl rfl rfl ?_
    refine JL.loud rfl (l_callF e17 rfl rfl (Fc.on (Split.cons (by (repeat (first | exact Pick.head | apply Pick.tail | apply Pick.app))) (Split.cons (by (repeat (first | exact Pick.head | apply Pick.tail | apply Pick.app))) Split.nil)) (cslots st d _ _ hl64)) ?_)
    rintro _ _ ⟨rfl, rfl⟩
    refine JL.step (y_move rfl) rfl rfl rfl ?_
    refine JL.nil ?_
    refine JE.then_normal ?_
    refine J.block ?_
    refine J.loop (α := Nat × Dk) (fun s => s.1 ≤ 32 ∧ LH sb0 s.2 (lgE s.1) ∧ s.2.safe.length = 64) (fun s => [(0, .int .i64 n), (4, .pointer (some ⟨st, 0, none⟩)), (5, .pointer (some ⟨lg, 0, none⟩)), (27, .int .i64 32), (28, .int .i64 s.1)]) (fun s => logm lg st (lgE s.1) :: row st 90 (scells sb0 d) :: disk d s.2 :: r) (fun s => 32 - s.1) (0, D0) ⟨Nat.zero_le _, hL0, hl64⟩ ⟨rfl, rfl, rfl, rfl, rfl, trivial⟩ (fun w h => h.sup (by (repeat (first | exact Sup.refl | apply Sup.cons (by (repeat (first | exact Pick.head | apply Pick.tail | apply Pick.app))) | apply Sup.app | apply Sup.skip | apply Sup.skips)))) ?_
    rintro ⟨i, D⟩ ⟨hi, hL, hl⟩
    dsimp only at hi hL hl ⊢
    refine J.seq ?_
    refine J.region ?_
    refine JL.step (y_lss rfl rfl) rfl rfl rfl ?_
    refine JL.nil ?_
    refine JE.then_normal ?_
    refine J.seq ?_
    first | apply J.cond_dec rfl | apply J.cond rfl
    case' ht =>
      intro h
      try (first | (exfalso; omega) | (cases h; done) | (exfalso; simp at h; done) | subst h)
      all_goals
        refine J.skip ?_
    case' hf =>
      intro h
      try (first | (exfalso; omega) | (cases h; done) | (exfalso; simp at h; done) | subst h)
      all_goals
        refine J.exit ?_
        refine JE.then_exit ?_
        refine JE.then_exit ?_
        refine JE.block_exit ?_
        refine JE.then_normal ?_
        refine J.seq ?_
        refine J.seq ?_
        obtain rfl : i = 32 := by omega
        have hD2 := hD hl
        obtain ⟨D2, eC, hL2, hl2⟩ := hL.check (state := Z) hZs (by rw [hZl, hD2.1]; omega) (by decide)
        have ccheck : ∀ p l, InL l p K0 K0 (ints .u8 Z) → Fc prog E 18 [.pointer (some ⟨lg, 0, none⟩), .slice p K0 K0].toArray (logm lg st (lgE 32) :: row st 90 (scells sb0 d) :: disk d D :: l) (fun v l' => v = .int .i64 0 ∧ l' = logm lg st ⟨Z, [], 0, false⟩ :: row st 90 (scells (nextS sb0 Z) d) :: disk d D2 :: l) := fun p l hi => by
          have q := lcheck_spec E lg st d (lgE 32) sb0 D l sb0_hash (by omega) (.inl rfl) (by rw [hL.holds.none]; decide) Z p K0 hZs (by rwa [hZl])
          rw [eC, hZl] at q
          exact q
        have hl2 : D2.safe.length = 64 := hl2.trans hl
        have hs2 : Small ([] : List Int) := small_nil
        obtain ⟨D3, eB, hL3, hl3⟩ := hL2.append small_nil (by show 0 + 1 ≤ _; rw [(hD hl2).2]; decide)
        have capp3 : ∀ l, Fc prog E 19 [.pointer (some ⟨lg, 0, none⟩), .slice none 0 0].toArray (logm lg st ⟨Z, [], 0, false⟩ :: row st 90 (scells (nextS sb0 Z) d) :: disk d D2 :: l) (fun v l' => v = .int .i64 0 ∧ l' = logm lg st ⟨Z, [[]], 1, false⟩ :: row st 90 (scells (nextS sb0 Z) d) :: disk d D3 :: l) := fun l => by
          have q := lappend_spec E lg st d ⟨Z, [], 0, false⟩ (nextS sb0 Z) D2 l (nextS_hash _ _) (by omega) [] none 0 0 rfl small_nil (by rw [hL2.holds.none]; decide) (by show 0 < 512; decide) InL.none12
          rwa [eB] at q
        refine J.region ?_
        refine JL.step (y_move rfl) rfl rfl rfl ?_
        refine JL.loud rfl (l_callF e16 rfl rfl (Fc.on (Split.cons (by (repeat (first | exact Pick.head | apply Pick.tail | apply Pick.app))) (Split.cons (by (repeat (first | exact Pick.head | apply Pick.tail | apply Pick.app))) (Split.cons (by (repeat (first | exact Pick.head | apply Pick.tail | apply Pick.app))) Split.nil))) (cfull lg st d D _ hL hl)) ?_)
        rintro _ _ ⟨rfl, rfl⟩
        refine JL.step (y_move rfl) rfl rfl rfl ?_
        all_goals (first | (refine JL.gsplit_dec rfl rfl rfl (fun h => ?_) (fun h => ?_) <;> try (first | (exfalso; omega) | exact absurd rfl h)) | (refine JL.gsplit rfl rfl rfl (fun h => ?_) (fun h => ?_) <;> try (first | cases h | (exfalso; simp at h; done))) | skip)
        all_goals (first | refine JL.gskip rfl rfl rfl rfl rfl rfl ?_ | refine JL.gskipU rfl rfl rfl rfl rfl ?_ | refine JL.gstep rfl rfl rfl (y_move rfl) rfl rfl ?_)
        all_goals (first | refine JL.gskip rfl rfl rfl rfl rfl rfl ?_ | refine JL.gskipU rfl rfl rfl rfl rfl ?_ | (refine JL.gloud rfl rfl rfl (l_callF e19 rfl rfl (Fc.on (Split.cons (by (repeat (first | exact Pick.head | apply Pick.tail | apply Pick.app))) (Split.cons (by (repeat (first | exact Pick.head | apply Pick.tail | apply Pick.app))) (Split.cons (by (repeat (first | exact Pick.head | apply Pick.tail | apply Pick.app))) Split.nil))) (cfapp lg st d D _ hL hl)) ?_); rintro _ _ ⟨rfl, rfl⟩))
        all_goals (first | refine JL.gskip rfl rfl rfl rfl rfl rfl ?_ | refine JL.gskipU rfl rfl rfl rfl rfl ?_ | refine JL.gstep rfl rfl rfl (y_neq rfl rfl) rfl rfl ?_)
        all_goals (refine JL.step (y_pick rfl rfl rfl) rfl rfl rfl ?_)
        all_goals (refine JL.step (y_move rfl) rfl rfl rfl ?_)
        all_goals (first | (refine JL.gsplit_dec rfl rfl rfl (fun h => ?_) (fun h => ?_) <;> try (first | (exfalso; omega) | exact absurd rfl h)) | (refine JL.gsplit rfl rfl rfl (fun h => ?_) (fun h => ?_) <;> try (first | cases h | (exfalso; simp at h; done))) | skip)
        all_goals (first | refine JL.gskip rfl rfl rfl rfl rfl rfl ?_ | refine JL.gskipU rfl rfl rfl rfl rfl ?_ | refine JL.gstep rfl rfl rfl (y_move rfl) rfl rfl ?_)
        all_goals (first | refine JL.gskip rfl rfl rfl rfl rfl rfl ?_ | refine JL.gskipU rfl rfl rfl rfl rfl ?_ | (refine JL.gloud rfl rfl rfl (l_callF e24 rfl rfl (Fc.on (Split.cons (by (repeat (first | exact Pick.head | apply Pick.tail | apply Pick.app))) Split.nil) (ctxs lg st _)) ?_); rintro _ _ ⟨ta, tc, tk, rfl, rfl⟩))
        all_goals (first | refine JL.gskip rfl rfl rfl rfl rfl rfl ?_ | refine JL.gskipU rfl rfl rfl rfl rfl ?_ | refine JL.gstep rfl rfl rfl (y_len_slice hT rfl rfl rfl) rfl rfl ?_)
        all_goals (first | refine JL.gskip rfl rfl rfl rfl rfl rfl ?_ | refine JL.gskipU rfl rfl rfl rfl rfl ?_ | refine JL.gstep rfl rfl rfl (y_move rfl) rfl rfl ?_)
        all_goals (first | refine JL.gskip rfl rfl rfl rfl rfl rfl ?_ | refine JL.gskipU rfl rfl rfl rfl rfl ?_ | (refine JL.gloud rfl rfl rfl (l_callF e17 rfl rfl (Fc.on (Split.cons (by (repeat (first | exact Pick.head | apply Pick.tail | apply Pick.app))) (Split.cons (by (repeat (first | exact Pick.head | apply Pick.tail | apply Pick.app))) Split.nil)) (cslots st d D _ hl)) ?_); rintro _ _ ⟨rfl, rfl⟩))
        all_goals (first | refine JL.gskip rfl rfl rfl rfl rfl rfl ?_ | refine JL.gskipU rfl rfl rfl rfl rfl ?_ | refine JL.gstep rfl rfl rfl (y_neq rfl rfl) rfl rfl ?_)
        all_goals (refine JL.step (y_pick rfl rfl rfl) rfl rfl rfl ?_)
        all_goals refine JL.nil ?_
        all_goals refine JE.then_normal ?_
        all_goals
          refine J.cond_f rfl (by (first | rfl | assumption | (simp; done) | (simp; omega))) ?_
          refine J.skip ?_
        all_goals refine JE.then_normal ?_
        all_goals
          refine J.seq ?_
          refine J.region ?_
          refine JL.step (y_move rfl) rfl rfl rfl ?_
          refine JL.step (y_convToQ hT rfl rfl rfl rfl) rfl rfl rfl ?_
          refine JL.step (y_move rfl) rfl rfl rfl ?_
          refine JL.loud rfl (l_callF e25 rfl rfl (Fc.on (Split.cons (by (repeat (first | exact Pick.head | apply Pick.tail | apply Pick.app))) (Split.cons (by (repeat (first | exact Pick.head | apply Pick.tail | apply Pick.app))) Split.nil)) (croom2 st d D _ hl)) ?_)
          rintro _ _ ⟨rfl, rfl⟩
          refine JL.step (y_add rfl rfl (by (first | exact wrap_i64 (by omega) (by omega) | rfl))) rfl rfl rfl ?_
          refine JL.step (y_convToQ hT rfl rfl rfl rfl) rfl rfl rfl ?_
          refine JL.step (y_rem (m := (K0 : Int)) rfl rfl (by decide) (by rw [Int.tmod_eq_emod_of_nonneg (by omega)]; show (((BitVec.ofInt 64 n).toNat : Nat) : Int) % 961 = _; omega)) rfl rfl rfl ?_
          refine JL.step (y_conv (m := (K0 : Int)) hT rfl rfl rfl rfl (wrap_i64 (by omega) (by omega))) rfl rfl rfl ?_
          refine JL.loud rfl (l_makeSlice hT rfl rfl rfl rfl rfl rfl (by (first | omega | exact Nat.le_of_ble_eq_true rfl | decide | (simp; omega))) (by (first | omega | exact Nat.le_of_ble_eq_true rfl | decide | (simp; omega))) (mk_fits rfl (by (first | omega | exact Nat.le_of_ble_eq_true rfl | decide | (simp; omega))) (by (first | omega | exact Nat.le_of_ble_eq_true rfl | decide | (simp; omega)))) (by (first | omega | exact Nat.le_of_ble_eq_true rfl | decide | (simp; omega))) rfl (fun b10 => ?_))
          have hmk : (madeCells (Value.int .u8 0).cells ((K0 : Int).toNat * i5.size)).toList = ints .u8 Z := by
            rw [show (Value.int .u8 0).cells = (List.replicate 1 (Value.int .u8 0)).toArray from rfl, madeCells_rep _ (by omega), ← hZ, ints, List.map_replicate, Int.toNat_natCast]
            show List.replicate (K0 * 1) _ = _
            rw [Nat.mul_one]
          rw [hmk]
          refine JL.step (y_assign rfl) rfl rfl rfl ?_
          refine JL.nil ?_
          refine JE.then_normal ?_
          refine J.seq ?_
          refine J.region ?_
          refine JL.step (y_move rfl) rfl rfl rfl (JL.step (y_move rfl) rfl rfl rfl ?_)
          refine JL.loud rfl (l_callF e18 rfl rfl (Fc.on (Split.cons (by (repeat (first | exact Pick.head | apply Pick.tail | apply Pick.app))) (Split.cons (by (repeat (first | exact Pick.head | apply Pick.tail | apply Pick.app))) (Split.cons (by (repeat (first | exact Pick.head | apply Pick.tail | apply Pick.app))) Split.nil))) (ccheck _ _ (InL.ofRow (by (repeat (first | exact Pick.head | apply Pick.tail | apply Pick.app))) (by unfold maxLen; omega)))) ?_)
          rintro _ _ ⟨rfl, rfl⟩
          refine JL.step (y_eql rfl rfl) rfl rfl rfl (JL.step (y_move rfl) rfl rfl rfl ?_)
          all_goals (first | (refine JL.gsplit_dec rfl rfl rfl (fun h => ?_) (fun h => ?_) <;> try (first | (exfalso; omega) | exact absurd rfl h)) | (refine JL.gsplit rfl rfl rfl (fun h => ?_) (fun h => ?_) <;> try (first | cases h | (exfalso; simp at h; done))) | skip)
          all_goals (first | refine JL.gskip rfl rfl rfl rfl rfl rfl ?_ | refine JL.gskipU rfl rfl rfl rfl rfl ?_ | refine JL.gstep rfl rfl rfl (y_move rfl) rfl rfl ?_)
          all_goals (first | refine JL.gskip rfl rfl rfl rfl rfl rfl ?_ | refine JL.gskipU rfl rfl rfl rfl rfl ?_ | (refine JL.gloud rfl rfl rfl (l_callF e23 rfl rfl (Fc.on (Split.cons (by (repeat (first | exact Pick.head | apply Pick.tail | apply Pick.app))) Split.nil) (lused_spec E lg st ⟨Z, [], 0, false⟩ _)) ?_); rintro _ _ ⟨rfl, rfl⟩))
          all_goals (first | refine JL.gskip rfl rfl rfl rfl rfl rfl ?_ | refine JL.gskipU rfl rfl rfl rfl rfl ?_ | refine JL.gstep rfl rfl rfl (y_eql rfl rfl) rfl rfl ?_)
          all_goals (refine JL.step (y_pick rfl rfl rfl) rfl rfl rfl ?_)
          all_goals (refine JL.step (y_move rfl) rfl rfl rfl ?_)
          all_goals (first | (refine JL.gsplit_dec rfl rfl rfl (fun h => ?_) (fun h => ?_) <;> try (first | (exfalso; omega) | exact absurd rfl h)) | (refine JL.gsplit rfl rfl rfl (fun h => ?_) (fun h => ?_) <;> try (first | cases h | (exfalso; simp at h; done))) | skip)
          all_goals (first | refine JL.gskip rfl rfl rfl rfl rfl rfl ?_ | refine JL.gskipU rfl rfl rfl rfl rfl ?_ | refine JL.gstep rfl rfl rfl (y_move rfl) rfl rfl ?_)
          all_goals (first | refine JL.gskip rfl rfl rfl rfl rfl rfl ?_ | refine JL.gskipU rfl rfl rfl rfl rfl ?_ | (refine JL.gloud rfl rfl rfl (l_callF e19 rfl rfl (Fc.on (Split.cons (by (repeat (first | exact Pick.head | apply Pick.tail | apply Pick.app))) (Split.cons (by (repeat (first | exact Pick.head | apply Pick.tail | apply Pick.app))) (Split.cons (by (repeat (first | exact Pick.head | apply Pick.tail | apply Pick.app))) Split.nil))) (capp3 _)) ?_); rintro _ _ ⟨rfl, rfl⟩))
          all_goals (first | refine JL.gskip rfl rfl rfl rfl rfl rfl ?_ | refine JL.gskipU rfl rfl rfl rfl rfl ?_ | refine JL.gstep rfl rfl rfl (y_eql rfl rfl) rfl rfl ?_)
          all_goals (refine JL.step (y_pick rfl rfl rfl) rfl rfl rfl ?_)
          all_goals (refine JL.step (y_assign rfl) rfl rfl rfl ?_)
          all_goals refine JL.nil ?_
          all_goals refine JE.then_normal ?_
          all_goals
            refine J.ret ?_
            refine JE.ret1 (.inl rfl) rfl rfl (by (first | exact RV.tmp rfl | exact RV.cell1 hT rfl rfl rfl (by (exact Rd1.row (by (repeat (first | exact Pick.head | apply Pick.tail | apply Pick.app))) (by rfl))) | exact RV.cellN hT rfl rfl rfl (by (first | exact RdN.rowAll (by (repeat (first | exact Pick.head | apply Pick.tail | apply Pick.app))) | exact RdN.own (by (repeat (first | exact Pick.head | apply Pick.tail | apply Pick.app))))) (by (first | rfl | assumption | (simp; done) | omega)))) ?_
            exact ⟨rfl, fun w q => q.sup (by (repeat (first | exact Sup.refl | apply Sup.cons (by (repeat (first | exact Pick.head | apply Pick.tail | apply Pick.app))) | apply Sup.app | apply Sup.skip | apply Sup.skips)))⟩
    all_goals refine JE.then_normal ?_
    all_goals
      refine J.seq ?_
      refine J.block ?_
      refine J.seq ?_
      have hlt : i < 32 := by omega
      obtain ⟨D', eA, hL', hl'⟩ := hL.empty (by rw [(hD hl).2]; exact hlt)
      refine J.region ?_
      refine JL.step (y_move rfl) rfl rfl rfl (JL.step (y_assign rfl) rfl rfl rfl ?_)
      refine JL.nil ?_
      refine JE.then_normal ?_
      refine J.seq ?_
      refine J.region ?_
      refine JL.step (y_move rfl) rfl rfl rfl ?_
      refine JL.loud rfl (l_callF e16 rfl rfl (Fc.on (Split.cons (by (repeat (first | exact Pick.head | apply Pick.tail | apply Pick.app))) (Split.cons (by (repeat (first | exact Pick.head | apply Pick.tail | apply Pick.app))) (Split.cons (by (repeat (first | exact Pick.head | apply Pick.tail | apply Pick.app))) Split.nil))) (croom lg st d i D _ hL hl hlt)) ?_)
      rintro _ _ ⟨rfl, rfl⟩
      refine JL.step (y_not rfl) rfl rfl rfl (JL.step (y_move rfl) rfl rfl rfl ?_)
      all_goals (first | (refine JL.gsplit_dec rfl rfl rfl (fun h => ?_) (fun h => ?_) <;> try (first | (exfalso; omega) | exact absurd rfl h)) | (refine JL.gsplit rfl rfl rfl (fun h => ?_) (fun h => ?_) <;> try (first | cases h | (exfalso; simp at h; done))) | skip)
      all_goals (first | refine JL.gskip rfl rfl rfl rfl rfl rfl ?_ | refine JL.gskipU rfl rfl rfl rfl rfl ?_ | refine JL.gstep rfl rfl rfl (y_move rfl) rfl rfl ?_)
      all_goals (first | refine JL.gskip rfl rfl rfl rfl rfl rfl ?_ | refine JL.gskipU rfl rfl rfl rfl rfl ?_ | (refine JL.gloud rfl rfl rfl (l_callF e19 rfl rfl (Fc.on (Split.cons (by (repeat (first | exact Pick.head | apply Pick.tail | apply Pick.app))) (Split.cons (by (repeat (first | exact Pick.head | apply Pick.tail | apply Pick.app))) (Split.cons (by (repeat (first | exact Pick.head | apply Pick.tail | apply Pick.app))) Split.nil))) (capp lg st d i D D' _ hL hl hlt eA)) ?_); rintro _ _ ⟨rfl, rfl⟩))
      all_goals (first | refine JL.gskip rfl rfl rfl rfl rfl rfl ?_ | refine JL.gskipU rfl rfl rfl rfl rfl ?_ | refine JL.gstep rfl rfl rfl (y_neq rfl rfl) rfl rfl ?_)
      all_goals (refine JL.step (y_pick rfl rfl rfl) rfl rfl rfl ?_)
      all_goals (refine JL.step (y_move rfl) rfl rfl rfl ?_)
      all_goals (first | (refine JL.gsplit_dec rfl rfl rfl (fun h => ?_) (fun h => ?_) <;> try (first | (exfalso; omega) | exact absurd rfl h)) | (refine JL.gsplit rfl rfl rfl (fun h => ?_) (fun h => ?_) <;> try (first | cases h | (exfalso; simp at h; done))) | skip)
      all_goals (first | refine JL.gskip rfl rfl rfl rfl rfl rfl ?_ | refine JL.gskipU rfl rfl rfl rfl rfl ?_ | refine JL.gstep rfl rfl rfl (y_move rfl) rfl rfl ?_)
      all_goals (first | refine JL.gskip rfl rfl rfl rfl rfl rfl ?_ | refine JL.gskipU rfl rfl rfl rfl rfl ?_ | (refine JL.gloud rfl rfl rfl (l_callF e23 rfl rfl (Fc.on (Split.cons (by (repeat (first | exact Pick.head | apply Pick.tail | apply Pick.app))) Split.nil) (cused lg st (i + 1) _)) ?_); rintro _ _ ⟨rfl, rfl⟩))
      all_goals (first | refine JL.gskip rfl rfl rfl rfl rfl rfl ?_ | refine JL.gskipU rfl rfl rfl rfl rfl ?_ | refine JL.gstep rfl rfl rfl (y_move rfl) rfl rfl ?_)
      all_goals (first | refine JL.gskip rfl rfl rfl rfl rfl rfl ?_ | refine JL.gskipU rfl rfl rfl rfl rfl ?_ | refine JL.gstep rfl rfl rfl (y_add rfl rfl (by (first | exact wrap_i64 (by omega) (by omega) | rfl))) rfl rfl ?_)
      all_goals (first | refine JL.gskip rfl rfl rfl rfl rfl rfl ?_ | refine JL.gskipU rfl rfl rfl rfl rfl ?_ | refine JL.gstep rfl rfl rfl (y_neq rfl rfl) rfl rfl ?_)
      all_goals (refine JL.step (y_pick rfl rfl rfl) rfl rfl rfl ?_)
      all_goals refine JL.nil ?_
      all_goals refine JE.then_normal ?_
      all_goals
        refine J.cond_f rfl (by (first | rfl | assumption | (simp; done) | (simp; omega))) ?_
        refine J.skip ?_
      all_goals refine JE.block_normal ?_
      all_goals refine JE.then_normal ?_
      all_goals
        refine J.region ?_
        refine JL.step (y_add rfl rfl (by (first | exact wrap_i64 (by omega) (by omega) | rfl))) rfl rfl rfl ?_
        refine JL.step (y_move rfl) rfl rfl rfl ?_
        refine JL.nil ?_
    all_goals
      refine JE.round (s := (i, D)) (i + 1, D') ⟨by dsimp only; omega, hL', by dsimp only; omega⟩ ⟨rfl, rfl, rfl, rfl, rfl, trivial⟩ (fun w q => q.sup (by (repeat (first | exact Sup.refl | apply Sup.cons (by (repeat (first | exact Pick.head | apply Pick.tail | apply Pick.app))) | apply Sup.app | apply Sup.skip | apply Sup.skips)))) (by dsimp only; omega)
end
section
open Go.ChangeShapes Go.WideShapes Go.ChangeAt Go.RowKit
theorem wal_fills_reads : ∀ t ∈ Try.f5.params.toList, Try.prog.readableRec t = true ∧ t < Try.prog.types.size := by
  rw [Try.params5]
  intro t ht
  simp only [List.mem_cons, List.not_mem_nil, or_false] at ht
  rcases ht with rfl
  all_goals exact ⟨by kernel_rfl, of_decide_eq_true (by kernel_rfl)⟩
set_option maxRecDepth 100000 in
theorem wal_fills_contract (H : Type) (enc : TypeId × Value → H) (W : World) (base : Nat) (args : Array Value) (ds gs : List (DataW H)) (before : List MemPlace)
    (hval : ∀ (j : Nat) t v, Try.f5.params[j]? = some t → args[j]? = some v → Value.okWide Try.prog W .any base t v)
    (hW : DataW.Whole enc Try.prog Try.f5.params.toList Rows.walFillsSpec.vars false W args.toList ds gs before) :
    Calls Try.prog 5 args W fun e W' => ∃ v, e = .returned v ∧ Rows.walFillsSpec.post enc Try.prog Try.f5 false true false false W args v W' := by
  have hW' := hW
  obtain ⟨p, q, hA0, hV, rfl, hfz, hnd⟩ := hW
  have hA : DataW.TrodAll enc Try.prog W 0 (fun _ => true) true Try.f5.params.toList args.toList ds p := hA0
  rw [Try.params5] at hA hval
  obtain ⟨v0, vs0, d0, ds0, p0, q0, hargs, rfl, rfl, h0, r0⟩ := trodAll_cons hA
  obtain ⟨rfl, rfl, rfl⟩ := trodAll_nil r0
  obtain rfl : args = #[v0] := by cases args; simp_all
  obtain ⟨rfl, rfl⟩ := trodVars_none hV
  clear hA0
  have t0 : Tr enc prog (fun _ => True) W 3 [v0] := Tr.ofInt u3 (hval 0 3 v0 rfl rfl) h0 trivial
  obtain ⟨n, e0, hn⟩ := Tr.int u3 t0
  cases e0
  refine ((wal_fills W n [old W]) W (Sat.start W)).mono fun e W' hq => ?_
  obtain ⟨v, l', rfl, hs, rfl, rfl⟩ := hq
  exact ⟨_, rfl, law_post laidOut_ rfl rfl u4 wal_fills_reads hW' rfl rfl rfl hs.below⟩
set_option maxRecDepth 100000 in
theorem wal_fills_lifted (os : Os) (started : os.Started) (H : Type) (enc : TypeId × Value → H) :
    ReturnsInHanded {} Try.checked os 5 .any (Rows.walFillsSpec.pre6 enc Try.prog Try.f5 Rows.walFillsRow.domain false) (Rows.walFillsSpec.post enc Try.prog Try.f5 false true false false) := by
  refine returnsInHanded_of_change (C := Try.checked) own_ started (by kernel_rfl) Try.func5
    (ChangeSpec.witness6 (enc := enc) (C := Try.checked) false ⟨#[], #[.int .i64 0], []⟩ 8 (by kernel_rfl) (by kernel_rfl) (by kernel_rfl) (by kernel_rfl)) ?_
  intro W base args ds gs before hval hW _ _
  exact wal_fills_contract H enc W base args ds gs before hval hW
theorem wal_fills_holds : Rows.WalFillsSaid :=
  OpenClaim.holds_of_wide 5 Try.f5 rfl rfl rfl rfl rfl rfl rfl ⟨rfl, rfl, rfl, rfl, rfl⟩ rfl rfl rfl rfl rfl (by kernel_rfl) Try.func5 (by kernel_rfl)
    (of_decide_eq_true (by kernel_rfl)) (by unfold Func.isWrapper; first | (rw [if_pos (by decide +kernel)]; kernel_rfl) | (rw [if_neg (by decide +kernel)]; exact ⟨rfl, rfl⟩))
    (fun os started H enc _ => wal_fills_lifted os started H enc)
end
end Go.Proofs.Ytmgagkpokmaefaa
