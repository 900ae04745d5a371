
/-
  hollowtreelaw12.WalReads returns true for every input, and leaves its input as it was. No condition.
-/
import Derived.Test.YtmgagkpokmaefaaJoin3
import Derived.Test.YtmgagkpokmaefaaJoin7
namespace Go.Proofs.Ytmgagkpokmaefaa
open Go Go.SL
section
attribute [local irreducible] J JL JE JM LS Y Fc RV Code.wp wpList Code.wpIn wpListIn
attribute [local irreducible] Yc
variable (E : World)
set_option maxHeartbeats 1000000 in
theorem wal_reads (p : Option Addr) (cap m : Nat) (xs : List Blk) (nn : Int) (tb : Nat) (r : List HProp) (hm : xs.length = m) (hin : InL r p m cap (xs.flatMap encB)) (h64 : ∀ b ∈ xs, b.length = 64) (hB : ∀ b ∈ xs, Bytes b) (htb : tb ≤ 255) :
    Fc prog E 9 [.slice p m cap, .int .i64 nn, .int .u8 tb].toArray r (fun v l' => v = .bool true ∧ l' = r) := by
  refine Fc.eqs ?_
  have hN := storeN_le nn
  obtain ⟨hL0, hl0⟩ := lh_format (n := storeN nn) hN.1 (by omega)
  obtain ⟨D0, hD0⟩ : ∃ D0, (Dk.new (storeN nn)).formatted = D0 := ⟨_, rfl⟩
  obtain ⟨N, hNe⟩ : ∃ N, storeN nn = N := ⟨_, rfl⟩
  rw [hD0] at hL0 hl0
  rw [hNe] at hl0 hN
  have hE : ∀ x ∈ xs, (encB x).length = 64 := fun x hx => (encB_length x).trans (h64 x hx)
  have hmost := hin.most
  have hle := hin.le
  have hm63 : m ≤ 9223372036854775807 := by unfold maxLen at hmost; omega
  obtain ⟨k0, hk0⟩ : ∃ k, tb % 3 = k := ⟨_, rfl⟩
  have hts : Small [(tb : Int)] := ⟨fun x h => by rw [List.mem_singleton] at h; omega, by show 1 ≤ 1048576; decide⟩
  refine Fc.of_body (c := ?codeC) Try.func9 ?hb Try.ntmps9 ?hl ?_
  case hb => exact rfl
  case hl => exact rfl
  refine J.seq ?_
  refine J.region ?_
  refine JL.step (y_assign rfl) rfl rfl rfl ?_
  refine JL.nil ?_
  refine JE.then_normal ?_
  refine J.seq ?_
  refine J.seq ?_
  refine J.region ?_
  refine JL.loud rfl (l_callF e11 rfl rfl (wakes12_spec E _) ?_)
  rintro _ l1 ⟨rfl, e1⟩
  obtain rfl := e1.symm
  refine JL.step (y_not rfl) rfl rfl rfl ?_
  refine JL.nil ?_
  refine JE.then_normal ?_
  refine J.cond_f rfl (by (first | rfl | assumption | (simp; done) | (simp; omega))) ?_
  refine J.skip ?_
  refine JE.then_normal ?_
  refine J.seq ?_
  refine J.region ?_
  refine JL.step (y_move rfl) rfl rfl rfl ?_
  refine JL.loud rfl (l_callF e12 rfl rfl (store_spec E nn _) ?_)
  rintro _ _ ⟨d, st, rfl, rfl⟩
  rw [hD0]
  refine JL.step (y_move rfl) rfl rfl rfl (JL.step (y_extract rfl rfl) rfl rfl rfl (JL.step (y_extract rfl rfl) rfl rfl rfl (JL.step (y_assign rfl) rfl rfl rfl (JL.step (y_assign rfl) rfl rfl rfl ?_))))
  refine JL.nil ?_
  refine JE.then_normal ?_
  refine J.seq ?_
  refine J.region ?_
  refine JL.step (y_move rfl) rfl rfl rfl ?_
  refine JL.loud rfl (l_callF e13 rfl rfl (Fc.on (Split.cons (by (repeat (first | exact Pick.head | apply Pick.tail | apply Pick.app))) (Split.cons (by (repeat (first | exact Pick.head | apply Pick.tail | apply Pick.app))) Split.nil)) (lopen_lh E st d sb0 D0 lg0 _ hL0)) ?_)
  rintro _ _ ⟨lg, rfl, rfl⟩
  refine JL.step (y_move rfl) rfl rfl rfl (JL.step (y_extract rfl rfl) rfl rfl rfl (JL.step (y_extract rfl rfl) rfl rfl rfl (JL.step (y_assign rfl) rfl rfl rfl (JL.step (y_assign rfl) rfl rfl rfl ?_))))
  refine JL.nil ?_
  refine JE.then_normal ?_
  refine J.seq ?_
  refine J.seq ?_
  refine J.region ?_
  refine JL.step (y_move rfl) rfl rfl rfl (JL.step (y_ptr_eq_nil hT rfl rfl rfl rfl) rfl rfl rfl (JL.step (y_move rfl) rfl rfl rfl ?_))
  all_goals (first | (refine JL.gsplit_dec rfl rfl rfl (fun h => ?_) (fun h => ?_) <;> try (first | (exfalso; omega) | exact absurd rfl h)) | (refine JL.gsplit rfl rfl rfl (fun h => ?_) (fun h => ?_) <;> try (first | cases h | (exfalso; simp at h; done))) | skip)
  all_goals (first | refine JL.gskip rfl rfl rfl rfl rfl rfl ?_ | refine JL.gskipU rfl rfl rfl rfl rfl ?_ | refine JL.gstep rfl rfl rfl (y_move rfl) rfl rfl ?_)
  all_goals (first | refine JL.gskip rfl rfl rfl rfl rfl rfl ?_ | refine JL.gskipU rfl rfl rfl rfl rfl ?_ | refine JL.gstep rfl rfl rfl (y_neq rfl rfl) rfl rfl ?_)
  all_goals (refine JL.step (y_pick rfl rfl rfl) rfl rfl rfl ?_)
  all_goals refine JL.nil ?_
  all_goals refine JE.then_normal ?_
  all_goals
    refine J.cond_f rfl (by (first | rfl | assumption | (simp; done) | (simp; omega))) ?_
    refine J.skip ?_
  all_goals refine JE.then_normal ?_
  all_goals
    refine J.seq ?_
    refine J.seq ?_
    refine J.region ?_
    refine JL.step (y_move rfl) rfl rfl rfl ?_
    refine JL.step (y_rem (m := (k0 : Int)) rfl rfl (by decide) (by rw [Int.tmod_eq_emod_of_nonneg (by omega)]; omega)) rfl rfl rfl ?_
    refine JL.step (y_move rfl) rfl rfl rfl ?_
    refine JL.nil ?_
    refine JE.then_normal ?_
    refine J.block ?_
    refine J.loop (α := Nat × Sb × Dk × Lg) (fun s => s.1 ≤ k0 ∧ LH s.2.1 s.2.2.1 s.2.2.2 ∧ s.2.1.turn.toNat ≤ s.1 ∧ s.2.2.1.safe.length = N) (fun s => [(0, .slice p m cap), (2, .int .u8 tb), (8, .pointer (some ⟨st, 0, none⟩)), (9, .pointer (some ⟨lg, 0, none⟩)), (35, .int .u8 k0), (36, .int .u8 s.1)]) (fun s => logm lg st s.2.2.2 :: row st 90 (scells s.2.1 d) :: disk d s.2.2.1 :: r) (fun s => k0 - s.1) (0, sb0, D0, lg0) ⟨Nat.zero_le _, hL0, Nat.le_refl _, hl0⟩ ⟨rfl, rfl, rfl, rfl, rfl, rfl, trivial⟩ (fun w h => h.sup (by (repeat (first | exact Sup.refl | apply Sup.cons (by (repeat (first | exact Pick.head | apply Pick.tail | apply Pick.app))) | apply Sup.app | apply Sup.skip | apply Sup.skips)))) ?_
    rintro ⟨i, S, D, L⟩ ⟨hi, hL, htn, hl⟩
    dsimp only at hi hL htn hl ⊢
    refine J.seq ?_
    refine J.region ?_
    refine JL.step (y_lss rfl rfl) rfl rfl rfl ?_
    refine JL.nil ?_
    refine JE.then_normal ?_
    refine J.seq ?_
    focus
      first | apply J.cond_dec rfl | apply J.cond rfl
      focus
        intro h
        try (first | (exfalso; omega) | (cases h; done) | (exfalso; simp at h; done) | subst h)
        all_goals
          refine J.skip ?_
      rotate_right 1
      focus
        intro h
        try (first | (exfalso; omega) | (cases h; done) | (exfalso; simp at h; done) | subst h)
        all_goals
          refine J.exit ?_
          refine JE.then_exit ?_
          refine JE.then_exit ?_
          refine JE.block_exit ?_
          refine JE.then_normal ?_
          refine J.seq ?_
          have h2 := hL.holds.fits.two
          have hsl := hL.slots
          have hhash := hL.holds.fits.hash
          refine J.region ?_
          refine JL.step (y_assign rfl) rfl rfl rfl ?_
          refine JL.nil ?_
          refine JE.then_normal ?_
          refine J.seq ?_
          refine J.seq ?_
          refine J.region ?_
          refine JL.step (y_move rfl) rfl rfl rfl ?_
          refine JL.loud rfl (l_callF e17 rfl rfl (Fc.on (Split.cons (by (repeat (first | exact Pick.head | apply Pick.tail | apply Pick.app))) (Split.cons (by (repeat (first | exact Pick.head | apply Pick.tail | apply Pick.app))) Split.nil)) (slots_spec E st d S D _ hhash h2)) ?_)
          rintro _ _ ⟨rfl, rfl⟩
          refine JL.step (y_move rfl) rfl rfl rfl ?_
          refine JL.nil ?_
          refine JE.then_normal ?_
          refine J.block ?_
          refine J.loop (α := Nat × Dk × Option Addr × Nat) (fun s => s.1 ≤ D.slots ∧ PutI xs D s.1 s.2.1) (fun s => [(0, .slice p m cap), (8, .pointer (some ⟨st, 0, none⟩)), (11, .slice s.2.2.1 s.1 s.2.2.2), (45, .int .i64 D.slots), (46, .int .i64 s.1)]) (fun s => own 42 64 (.slice s.2.2.1 s.1 s.2.2.2) s.1 ((padL xs s.1).flatMap encB) :: row st 90 (scells S d) :: disk d s.2.1 :: r) (fun s => D.slots - s.1) (0, D, none, 0) ⟨Nat.zero_le _, PutI.start hL.holds.up hL.byt hL.holds.none⟩ ⟨rfl, rfl, rfl, rfl, rfl, trivial⟩ (fun w h => h.own_nil.sup (by (repeat (first | exact Sup.refl | apply Sup.cons (by (repeat (first | exact Pick.head | apply Pick.tail | apply Pick.app))) | apply Sup.app | apply Sup.skip | apply Sup.skips)))) ?_
          rintro ⟨i, X, a, c⟩ ⟨hi, hP⟩
          dsimp only at hi hP ⊢
          refine J.seq ?_
          refine J.region ?_
          refine JL.step (y_lss rfl rfl) rfl rfl rfl ?_
          refine JL.nil ?_
          refine JE.then_normal ?_
          refine J.seq ?_
          focus
            first | apply J.cond_dec rfl | apply J.cond rfl
            focus
              intro h
              try (first | (exfalso; omega) | (cases h; done) | (exfalso; simp at h; done) | subst h)
              all_goals
                refine J.skip ?_
            rotate_right 1
            focus
              intro h
              try (first | (exfalso; omega) | (cases h; done) | (exfalso; simp at h; done) | subst h)
              all_goals
                refine J.exit ?_
                refine JE.then_exit ?_
                refine JE.then_exit ?_
                refine JE.block_exit ?_
                refine JE.then_normal ?_
                refine J.seq ?_
                obtain rfl : i = D.slots := by omega
                obtain ⟨hBL, hXs⟩ := hP.slots
                obtain ⟨hFX, hSX⟩ := snap_log hL.holds hP.up hP.len (fun j hj => by rw [hP.find, if_neg (by omega)])
                have hhs := hL.holds.hash
                have hsz : S.size.toNat = L.snap.length := by rw [hL.holds.size]; rfl
                obtain ⟨BL, hBLe⟩ : ∃ BL, padL xs D.slots = BL := ⟨_, rfl⟩
                rw [hBLe] at hBL ⊢
                have hBl : BL.length = D.slots := by rw [← hBLe, padL_length]
                have hB64 : ∀ b ∈ BL, b.length = 64 := fun b hb => by
                  rw [← hBLe, padL, List.mem_map] at hb
                  obtain ⟨i, _, rfl⟩ := hb
                  exact padB_64 h64 i
                have hBB : ∀ b ∈ BL, Bytes b := fun b hb => by
                  rw [← hBLe, padL, List.mem_map] at hb
                  obtain ⟨i, _, rfl⟩ := hb
                  exact padB_bytes hB i
                have hpX := hP.few
                obtain ⟨L2, hL2⟩ : ∃ L2, openL S X L.snap = L2 := ⟨_, rfl⟩
                have hs2 : L2.snap = L.snap := by rw [← hL2]; rfl
                have ht2 : L2.txs = (scan S.turn BL D.slots [] 0).1 := by rw [← hL2, openL, hBL, hXs]
                have hu2 : L2.used = usedN L2.txs := by
                  rw [ht2, ← scan_used S.turn BL D.slots [] 0 rfl, ← hL2, openL, hBL, hXs]
                have copen : ∀ l, Fc prog E 13 [.pointer (some ⟨st, 0, none⟩)].toArray (row st 90 (scells S d) :: disk d X :: l) (fun v l' => ∃ lg, v = .tuple #[.pointer (some ⟨lg, 0, none⟩), .int .i64 0] ∧ l' = logm lg st L2 :: row st 90 (scells S d) :: disk d X :: l) := fun l => by
                  have q := lopen_spec E st d S X L.snap l hFX hP.up.dead hP.byt (by omega) hSX hhs
                  rwa [hL2] at q
                have ctxs : ∀ (a : Option Addr) (c : Nat) l, InL l a D.slots c (BL.flatMap encB) → Fc prog E 38 [Q S.turn, .slice a D.slots c].toArray l (fun v l' => ∃ a c n vals K, v = .slice a n c ∧ L2.txs.length = n ∧ TxB K vals L2.txs ∧ l' = own 36 1 v n vals :: K :: l) := fun a c l h => by
                  have q := rtxs_spec E S.turn a c D.slots BL l hBl (by omega) hB64 hBB h
                  rwa [← ht2] at q
                refine J.region ?_
                refine JL.step (y_move rfl) rfl rfl rfl ?_
                refine JL.loud rfl (l_callF e13 rfl rfl (Fc.on (Split.cons (by (repeat (first | exact Pick.head | apply Pick.tail | apply Pick.app))) (Split.cons (by (repeat (first | exact Pick.head | apply Pick.tail | apply Pick.app))) Split.nil)) (copen _)) ?_)
                rintro _ _ ⟨lg2, rfl, rfl⟩
                refine JL.step (y_move rfl) rfl rfl rfl (JL.step (y_extract rfl rfl) rfl rfl rfl (JL.step (y_extract rfl rfl) rfl rfl rfl (JL.step (y_assign rfl) rfl rfl rfl (JL.step (y_assign rfl) rfl rfl rfl ?_))))
                refine JL.nil ?_
                refine JE.then_normal ?_
                refine J.seq ?_
                refine J.region ?_
                refine JL.step (y_move rfl) rfl rfl rfl ?_
                refine JL.loud rfl (l_callF e37 rfl rfl (Fc.on (Split.cons (by (repeat (first | exact Pick.head | apply Pick.tail | apply Pick.app))) (Split.cons (by (repeat (first | exact Pick.head | apply Pick.tail | apply Pick.app))) Split.nil)) (snapshot_ok E st d S X L.snap _ hFX hP.up.dead (by omega) hSX hsz hhs)) ?_)
                rintro _ _ ⟨sa, sc, rfl, rfl⟩
                refine JL.step (y_move rfl) rfl rfl rfl (JL.step (y_extract rfl rfl) rfl rfl rfl (JL.step (y_extract rfl rfl) rfl rfl rfl (JL.step (y_assign rfl) rfl rfl rfl (JL.step (y_assign rfl) rfl rfl rfl ?_))))
                refine JL.nil ?_
                refine JE.then_normal ?_
                refine J.seq ?_
                refine J.region ?_
                refine JL.step (y_move rfl) rfl rfl rfl (JL.step (y_eql rfl rfl) rfl rfl rfl (JL.step (y_move rfl) rfl rfl rfl ?_))
                all_goals (first | (refine JL.gsplit_dec rfl rfl rfl (fun h => ?_) (fun h => ?_) <;> try (first | (exfalso; omega) | exact absurd rfl h)) | (refine JL.gsplit rfl rfl rfl (fun h => ?_) (fun h => ?_) <;> try (first | cases h | (exfalso; simp at h; done))) | skip)
                all_goals (first | refine JL.gskip rfl rfl rfl rfl rfl rfl ?_ | refine JL.gskipU rfl rfl rfl rfl rfl ?_ | refine JL.gstep rfl rfl rfl (y_move rfl) rfl rfl ?_)
                all_goals (first | refine JL.gskip rfl rfl rfl rfl rfl rfl ?_ | refine JL.gskipU rfl rfl rfl rfl rfl ?_ | refine JL.gstep rfl rfl rfl (y_eql rfl rfl) rfl rfl ?_)
                all_goals (refine JL.step (y_pick rfl rfl rfl) rfl rfl rfl ?_)
                all_goals (refine JL.step (y_move rfl) rfl rfl rfl ?_)
                all_goals (first | (refine JL.gsplit_dec rfl rfl rfl (fun h => ?_) (fun h => ?_) <;> try (first | (exfalso; omega) | exact absurd rfl h)) | (refine JL.gsplit rfl rfl rfl (fun h => ?_) (fun h => ?_) <;> try (first | cases h | (exfalso; simp at h; done))) | skip)
                all_goals (first | refine JL.gskip rfl rfl rfl rfl rfl rfl ?_ | refine JL.gskipU rfl rfl rfl rfl rfl ?_ | refine JL.gstep rfl rfl rfl (y_move rfl) rfl rfl ?_)
                all_goals (first | refine JL.gskip rfl rfl rfl rfl rfl rfl ?_ | refine JL.gskipU rfl rfl rfl rfl rfl ?_ | refine JL.gstep rfl rfl rfl (y_move rfl) rfl rfl ?_)
                all_goals (first | refine JL.gskip rfl rfl rfl rfl rfl rfl ?_ | refine JL.gskipU rfl rfl rfl rfl rfl ?_ | refine JL.gstep rfl rfl rfl (y_move rfl) rfl rfl ?_)
                all_goals (first | refine JL.gskip rfl rfl rfl rfl rfl rfl ?_ | refine JL.gskipU rfl rfl rfl rfl rfl ?_ | (refine JL.gloud rfl rfl rfl (l_callF e21 rfl rfl (Fc.on (Split.cons (by (repeat (first | exact Pick.head | apply Pick.tail | apply Pick.app))) (Split.cons (by (repeat (first | exact Pick.head | apply Pick.tail | apply Pick.app))) Split.nil)) (turn_spec E st d S X _ hhash)) ?_); rintro _ _ ⟨rfl, rfl⟩))
                all_goals (first | refine JL.gskip rfl rfl rfl rfl rfl rfl ?_ | refine JL.gskipU rfl rfl rfl rfl rfl ?_ | refine JL.gstep rfl rfl rfl (y_move rfl) rfl rfl ?_)
                all_goals (first | refine JL.gskip rfl rfl rfl rfl rfl rfl ?_ | refine JL.gskipU rfl rfl rfl rfl rfl ?_ | (refine JL.gloud rfl rfl rfl (l_callF e38 rfl rfl (Fc.fact (p := OwnAt a D.slots c (BL.flatMap encB)) (fun w s => Sat.own_at (s.pick (by (repeat (first | exact Pick.head | apply Pick.tail | apply Pick.app))))) fun oa => ctxs a c _ (oa.inl (by (repeat (first | exact Pick.head | apply Pick.tail | apply Pick.app))))) ?_); rintro _ _ ⟨ua, uc, un, uvals, UK, rfl, hun, hTx, rfl⟩))
                all_goals (first | refine JL.gskip rfl rfl rfl rfl rfl rfl ?_ | refine JL.gskipU rfl rfl rfl rfl rfl ?_ | (refine JL.gloud rfl rfl rfl (l_callF e35 rfl rfl (Fc.fact (p := OwnAt sa L.snap.length sc (ints .u8 L.snap)) (fun w s => Sat.own_at (s.pick (by (repeat (first | exact Pick.head | apply Pick.tail | apply Pick.app))))) fun os => Fc.on (Split.cons (A := logm lg2 st L2) (by (repeat (first | exact Pick.head | apply Pick.tail | apply Pick.app))) (Split.cons (A := own 36 1 (.slice ua un uc) un uvals) (by (repeat (first | exact Pick.head | apply Pick.tail | apply Pick.app))) (Split.cons (A := UK) (by (repeat (first | exact Pick.head | apply Pick.tail | apply Pick.app))) Split.nil))) (tells_spec E lg2 st L2 _ sa ua L.snap.length sc un uc uvals UK (by rw [hs2]) hun hu2 (by rw [hs2]; exact os.inl (by (repeat (first | exact Pick.head | apply Pick.tail | apply Pick.app)))) hTx)) ?_); rintro _ _ ⟨rfl, rfl⟩))
                all_goals (refine JL.step (y_pick rfl rfl rfl) rfl rfl rfl ?_)
                all_goals (refine JL.step (y_assign rfl) rfl rfl rfl ?_)
                all_goals refine JL.nil ?_
                all_goals refine JE.then_normal ?_
                all_goals
                  refine J.ret ?_
                  refine JE.ret1 (.inl rfl) rfl rfl (by (first | exact RV.tmp rfl | exact RV.cell1 hT rfl rfl rfl (by (exact Rd1.row (by (repeat (first | exact Pick.head | apply Pick.tail | apply Pick.app))) (by rfl))) | exact RV.cellN hT rfl rfl rfl (by (first | exact RdN.rowAll (by (repeat (first | exact Pick.head | apply Pick.tail | apply Pick.app))) | exact RdN.own (by (repeat (first | exact Pick.head | apply Pick.tail | apply Pick.app))))) (by (first | rfl | assumption | (simp; done) | omega)))) ?_
                  exact ⟨rfl, fun w q => q.sup (by (repeat (first | exact Sup.refl | apply Sup.cons (by (repeat (first | exact Pick.head | apply Pick.tail | apply Pick.app))) | apply Sup.app | apply Sup.skip | apply Sup.skips)))⟩
          all_goals refine JE.then_normal ?_
          all_goals
            refine J.seq ?_
            refine J.block ?_
            refine J.seq ?_
            have hlt : i < D.slots := by omega
            obtain ⟨X', eP, hP'⟩ := hP.step h2 hlt h64 hB
            have hXl : X.safe.length = D.safe.length := hP.len
            obtain ⟨Y, hY⟩ : ∃ Y, padB xs i = Y := ⟨_, rfl⟩
            have hY64 : Y.length = 64 := by rw [← hY]; exact padB_64 h64 i
            have hYL : (encB Y).length = 64 := (encB_length _).trans hY64
            rw [hY] at eP
            have cput : ∀ l, Fc prog E 36 [.pointer (some ⟨st, 0, none⟩), .int .i64 (i : Int), .agg (encB Y).toArray].toArray (row st 90 (scells S d) :: disk d X :: l) (fun v l' => v = .int .i64 0 ∧ l' = row st 90 (scells S d) :: disk d X' :: l) := fun l => by
              have q := sput_spec E st d S X l hhash (by rw [hXl]; exact h2) (by have := hP.few; omega) (i : Int) Y hY64
              rwa [eP] at q
            refine J.region ?_
            refine JL.step (y_move rfl) rfl rfl rfl (JL.step (y_assign rfl) rfl rfl rfl ?_)
            refine JL.nil ?_
            refine JE.then_normal ?_
            refine J.seq ?_
            refine J.region ?_
            refine JL.loud rfl (l_alloc hT rfl rfl (by (first | rfl | simp)) rfl (fun b13 => ?_))
            refine JL.nil ?_
            refine JE.then_normal ?_
            refine J.seqK (α := Unit) (fun _ => True) (fun _ => [(0, .slice p m cap), (8, .pointer (some ⟨st, 0, none⟩)), (11, .slice a i c), (12, .int .i64 i), (13, .pointer (some ⟨b13, 0, none⟩)), (45, .int .i64 D.slots), (46, .int .i64 i)]) (fun _ => row b13 42 (encB Y) :: own 42 64 (.slice a i c) i ((padL xs i).flatMap encB) :: row st 90 (scells S d) :: disk d X :: r) ?hj19 (fun hk19 => ?hf19)
            case hf19 =>
              refine J.seq ?_
              refine J.region ?_
              refine JL.step (y_move rfl) rfl rfl rfl (JL.step (y_move rfl) rfl rfl rfl (JL.step (y_len_slice hT rfl rfl rfl) rfl rfl rfl (JL.step (y_lss rfl rfl) rfl rfl rfl ?_)))
              refine JL.nil ?_
              refine JE.then_normal ?_
              focus
                first | apply J.cond_dec rfl | apply J.cond rfl
                focus
                  intro h
                  try (first | (exfalso; omega) | (cases h; done) | (exfalso; simp at h; done) | subst h)
                  all_goals
                    have hj1 : i < m := by omega
                    obtain ⟨go, oo, rfl, hro⟩ := hin.addr (by omega)
                    have hrd : ∀ l', InL l' (some ⟨go, oo, none⟩) m cap (xs.flatMap encB) → RdN l' go oo (xs.flatMap encB) := fun l' h => by
                      obtain ⟨b', o', e, hr⟩ := h.addr (by omega)
                      cases e
                      exact hr []
                    have hYi : xs[i]? = some Y := by rw [← hY, padB, List.getD_eq_getElem?_getD, List.getElem?_eq_getElem (by omega)]; rfl
                    refine J.region ?_
                    refine JL.step (y_move rfl) rfl rfl rfl (JL.step (y_move rfl) rfl rfl rfl ?_)
                    refine JL.step (y_indexAddr_slice hT rfl rfl rfl rfl rfl (by (first | omega | exact Nat.le_of_ble_eq_true rfl | decide | (simp; omega))) (by (first | omega | exact Nat.le_of_ble_eq_true rfl | decide | (simp; omega)))) rfl rfl rfl ?_
                    refine JL.step (y_loadN hT rfl rfl rfl (RdN.elem (hrd _ (by (repeat (first | assumption | apply InL.cons | apply InL.app)))) hE hYi) hYL) rfl rfl rfl ?_
                    refine JL.loud rfl (l_storeAll hT rfl rfl rfl (by (first | rfl | assumption | (simp; done) | omega)) (by (first | assumption | exact ones_of rfl | exact encW_one _ | exact encB_one _ | (intro u hu; simp at hu; rcases hu with rfl | rfl <;> rfl) | (intro u hu; simp at hu; subst hu; rfl) | simp)) (by (repeat (first | exact Pick.head | apply Pick.tail | apply Pick.app))) (by (first | rfl | assumption | (simp; done) | omega)) ?_)
                    refine JL.nil ?_
                rotate_right 1
                focus
                  intro h
                  try (first | (exfalso; omega) | (cases h; done) | (exfalso; simp at h; done) | subst h)
                  all_goals
                    have hj0 : encB Y = List.replicate 64 (Value.int .u8 0) := by
                      rw [← hY, padB, List.getD_eq_getElem?_getD, List.getElem?_eq_none (by omega)]
                      rfl
                    refine J.skip ?_
              all_goals refine JE.then_normal ?_
              all_goals
                first
                  | (have zz := hj1
                     refine J.closeK hk19 () trivial ⟨rfl, rfl, rfl, rfl, rfl, rfl, rfl, trivial⟩ ?_
                     exact fun w q => q.sup (by (repeat (first | exact Sup.refl | apply Sup.cons (by (repeat (first | exact Pick.head | apply Pick.tail | apply Pick.app))) | apply Sup.app | apply Sup.skip | apply Sup.skips))))
                  | (have zz := hj0
                     refine J.closeK hk19 () trivial ⟨rfl, rfl, rfl, rfl, rfl, rfl, rfl, trivial⟩ ?_
                     rw [hj0]
                     exact fun w q => q.sup (by (repeat (first | exact Sup.refl | apply Sup.cons (by (repeat (first | exact Pick.head | apply Pick.tail | apply Pick.app))) | apply Sup.app | apply Sup.skip | apply Sup.skips))))
            intro _ _
            try dsimp only
            refine J.seq ?_
            refine J.seq ?_
            refine J.region ?_
            refine JL.step (y_move rfl) rfl rfl rfl (JL.step (y_move rfl) rfl rfl rfl ?_)
            refine JL.step (y_loadN hT rfl rfl rfl (by (first | exact RdN.rowAll (by (repeat (first | exact Pick.head | apply Pick.tail | apply Pick.app))) | exact RdN.own (by (repeat (first | exact Pick.head | apply Pick.tail | apply Pick.app))))) (by (first | rfl | assumption | (simp; done) | omega))) rfl rfl rfl ?_
            refine JL.loud rfl (l_callF e36 rfl rfl (Fc.on (Split.cons (by (repeat (first | exact Pick.head | apply Pick.tail | apply Pick.app))) (Split.cons (by (repeat (first | exact Pick.head | apply Pick.tail | apply Pick.app))) Split.nil)) (cput _)) ?_)
            rintro _ _ ⟨rfl, rfl⟩
            refine JL.step (y_neq rfl rfl) rfl rfl rfl ?_
            refine JL.nil ?_
            refine JE.then_normal ?_
            focus
              first | apply J.cond_dec rfl | apply J.cond rfl
              focus
                intro h
                try (first | (exfalso; omega) | (cases h; done) | (exfalso; simp at h; done) | subst h)
                all_goals
                  refine J.seq ?_
                  refine J.region ?_
                  refine JL.step (y_assign rfl) rfl rfl rfl ?_
                  refine JL.nil ?_
                  refine JE.then_normal ?_
                  refine J.ret ?_
                  refine JE.then_ret ?_
                  refine JE.block_ret ?_
                  refine JE.then_ret ?_
                  refine JE.then_ret ?_
                  refine JE.block_ret ?_
                  refine JE.then_ret ?_
                  refine JE.ret1 (.inl rfl) rfl rfl (by (first | exact RV.tmp rfl | exact RV.cell1 hT rfl rfl rfl (by (exact Rd1.row (by (repeat (first | exact Pick.head | apply Pick.tail | apply Pick.app))) (by rfl))) | exact RV.cellN hT rfl rfl rfl (by (first | exact RdN.rowAll (by (repeat (first | exact Pick.head | apply Pick.tail | apply Pick.app))) | exact RdN.own (by (repeat (first | exact Pick.head | apply Pick.tail | apply Pick.app))))) (by (first | rfl | assumption | (simp; done) | omega)))) ?_
                  exact ⟨rfl, fun w q => q.sup (by (repeat (first | exact Sup.refl | apply Sup.cons (by (repeat (first | exact Pick.head | apply Pick.tail | apply Pick.app))) | apply Sup.app | apply Sup.skip | apply Sup.skips)))⟩
              rotate_right 1
              focus
                intro h
                try (first | (exfalso; omega) | (cases h; done) | (exfalso; simp at h; done) | subst h)
                all_goals
                  refine J.skip ?_
            all_goals refine JE.then_normal ?_
            all_goals
              refine J.region ?_
              refine JL.step (y_move rfl) rfl rfl rfl ?_
              refine JL.step (y_loadN hT rfl rfl rfl (by (first | exact RdN.rowAll (by (repeat (first | exact Pick.head | apply Pick.tail | apply Pick.app))) | exact RdN.own (by (repeat (first | exact Pick.head | apply Pick.tail | apply Pick.app))))) (by (first | rfl | assumption | (simp; done) | omega))) rfl rfl rfl ?_
              refine JL.loud rfl (l_buildSliceP hT rfl rfl rfl rfl rfl rfl rfl (by (first | exact fill_one rfl (by first | assumption | rfl | (simp; done)) | rfl | simp)) rfl (fun b12 => ?_))
              refine JL.loud rfl (l_append hT rfl rfl rfl rfl rfl rfl rfl rfl (by (repeat (first | exact Pick.head | apply Pick.tail | apply Pick.app))) (by (first | exact RdN.rowAll (by (repeat (first | exact Pick.head | apply Pick.tail | apply Pick.app))) | exact RdN.own (by (repeat (first | exact Pick.head | apply Pick.tail | apply Pick.app))))) (by (first | rfl | assumption | (simp; done) | omega)) (by (first | assumption | exact ones_of rfl | exact encW_one _ | exact encB_one _ | (intro u hu; simp at hu; rcases hu with rfl | rfl <;> rfl) | (intro u hu; simp at hu; subst hu; rfl) | simp)) (by rw [show i42.bytes = 64 from rfl]; omega) (by omega) rfl (fun na nc hnc => ?_))
              refine JL.step (y_assign rfl) rfl rfl rfl ?_
              refine JL.nil ?_
            all_goals refine JE.block_normal ?_
            all_goals refine JE.then_normal ?_
            all_goals
              refine J.region ?_
              refine JL.step (y_add rfl rfl (by (first | exact wrap_i64 (by omega) (by omega) | rfl))) rfl rfl rfl ?_
              refine JL.step (y_move rfl) rfl rfl rfl ?_
              refine JL.nil ?_
          all_goals
            refine JE.round (s := (i, X, a, c)) (i + 1, X', na, nc) ⟨by dsimp only; omega, hP'⟩ ⟨rfl, rfl, rfl, rfl, rfl, trivial⟩ (fun w q => ?_) (by dsimp only; omega)
            have e : (padL xs (i + 1)).flatMap encB = (padL xs i).flatMap encB ++ encB Y := by rw [padL_next, hY]; simp
            dsimp only
            rw [e]
            exact q.sup (by (repeat (first | exact Sup.refl | apply Sup.cons (by (repeat (first | exact Pick.head | apply Pick.tail | apply Pick.app))) | apply Sup.app | apply Sup.skip | apply Sup.skips)))
    all_goals refine JE.then_normal ?_
    all_goals
      refine J.seq ?_
      refine J.block ?_
      refine J.seq ?_
      have hlt : i < k0 := by omega
      have hhf : 15 ≤ D.half := by unfold Dk.half; omega
      obtain ⟨D', eC, hL', hl'⟩ := hL.check hts (by show 1 ≤ _; omega) (by omega)
      refine J.region ?_
      refine JL.step (y_move rfl) rfl rfl rfl (JL.step (y_move rfl) rfl rfl rfl ?_)
      refine JL.loud rfl (l_buildSliceP (cs := ints .u8 [(tb : Int)]) hT rfl rfl rfl rfl rfl rfl rfl (by (first | exact fill_one rfl (by first | assumption | rfl | (simp; done)) | rfl | simp)) rfl (fun bq => ?_))
      refine JL.loud rfl (l_callF e18 rfl rfl (Fc.on (Split.cons (by (repeat (first | exact Pick.head | apply Pick.tail | apply Pick.app))) (Split.cons (by (repeat (first | exact Pick.head | apply Pick.tail | apply Pick.app))) (Split.cons (by (repeat (first | exact Pick.head | apply Pick.tail | apply Pick.app))) Split.nil))) (check_lh E lg st d _ hL [(tb : Int)] _ _ 1 rfl hts eC (InL.ofRow (cs := ints .u8 [(tb : Int)]) (by (repeat (first | exact Pick.head | apply Pick.tail | apply Pick.app))) (by decide)))) ?_)
      rintro _ _ ⟨rfl, rfl⟩
      refine JL.step (y_neq rfl rfl) rfl rfl rfl ?_
      refine JL.nil ?_
      refine JE.then_normal ?_
      focus
        first | apply J.cond_dec rfl | apply J.cond rfl
        focus
          intro h
          try (first | (exfalso; omega) | (cases h; done) | (exfalso; simp at h; done) | subst h)
          all_goals
            refine J.seq ?_
            refine J.region ?_
            refine JL.step (y_assign rfl) rfl rfl rfl ?_
            refine JL.nil ?_
            refine JE.then_normal ?_
            refine J.ret ?_
            refine JE.block_ret ?_
            refine JE.then_ret ?_
            refine JE.then_ret ?_
            refine JE.block_ret ?_
            refine JE.then_ret ?_
            refine JE.ret1 (.inl rfl) rfl rfl (by (first | exact RV.tmp rfl | exact RV.cell1 hT rfl rfl rfl (by (exact Rd1.row (by (repeat (first | exact Pick.head | apply Pick.tail | apply Pick.app))) (by rfl))) | exact RV.cellN hT rfl rfl rfl (by (first | exact RdN.rowAll (by (repeat (first | exact Pick.head | apply Pick.tail | apply Pick.app))) | exact RdN.own (by (repeat (first | exact Pick.head | apply Pick.tail | apply Pick.app))))) (by (first | rfl | assumption | (simp; done) | omega)))) ?_
            exact ⟨rfl, fun w q => q.sup (by (repeat (first | exact Sup.refl | apply Sup.cons (by (repeat (first | exact Pick.head | apply Pick.tail | apply Pick.app))) | apply Sup.app | apply Sup.skip | apply Sup.skips)))⟩
        rotate_right 1
        focus
          intro h
          try (first | (exfalso; omega) | (cases h; done) | (exfalso; simp at h; done) | subst h)
          all_goals
            refine J.skip ?_
      all_goals refine JE.block_normal ?_
      all_goals refine JE.then_normal ?_
      all_goals
        refine J.region ?_
        refine JL.step (y_add (m := ((i + 1 : Nat) : Int)) rfl rfl (by rw [wrap_u8]; omega)) rfl rfl rfl ?_
        refine JL.step (y_move rfl) rfl rfl rfl ?_
        refine JL.nil ?_
    all_goals
      exact JE.round (s := (i, S, D, L)) (i + 1, nextS S [(tb : Int)], D', _) ⟨by dsimp only; omega, hL', by dsimp only; rw [next_turn (by omega)]; omega, hl'.trans hl⟩ ⟨rfl, rfl, rfl, rfl, rfl, rfl, trivial⟩ (fun w q => q.sup (by (repeat (first | exact Sup.refl | apply Sup.cons (by (repeat (first | exact Pick.head | apply Pick.tail | apply Pick.app))) | apply Sup.app | apply Sup.skip | apply Sup.skips)))) (by dsimp only; omega)
end
section
open Go.ChangeShapes Go.WideShapes Go.ChangeAt Go.RowKit
set_option maxRecDepth 100000 in
theorem tr_blocks {H : Type} {enc : TypeId × Value → H} {w : World} {ok : DataW H → Prop} {L : Nat → Prop} {v : Value} (her : Her ok L) (h : Tr enc prog ok w 37 [v]) :
    ∃ (p : Option Addr) (cap : Nat) (xs : List Blk), v = .slice p xs.length cap ∧ L xs.length ∧ (∀ x ∈ xs, x.length = 64 ∧ Bytes x) ∧ InW w p xs.length cap (xs.flatMap encB) := by
  obtain ⟨p, cap, xs, h1, hL, hk, h2⟩ := Tr.slice (encA := encB) (okA := fun x : Blk => x.length = 64 ∧ Bytes x) (k := 64) her u37 (by kernel_rfl) (by decide) (fun a ha => (encB_length a).trans ha.1) (fun cs hc => by
    obtain ⟨b, e, hb, hb2⟩ := tr_block her hc
    exact ⟨b, e, hb, hb2⟩) h
  exact ⟨p, cap, xs, h1, hL, hk, h2⟩
theorem wal_reads_reads : ∀ t ∈ Try.f9.params.toList, Try.prog.readableRec t = true ∧ t < Try.prog.types.size := by
  rw [Try.params9]
  intro t ht
  simp only [List.mem_cons, List.not_mem_nil, or_false] at ht
  rcases ht with rfl | rfl | rfl
  all_goals exact ⟨by kernel_rfl, of_decide_eq_true (by kernel_rfl)⟩
set_option maxRecDepth 100000 in
theorem wal_reads_contract (H : Type) (enc : TypeId × Value → H) (W : World) (base : Nat) (args : Array Value) (ds gs : List (DataW H)) (before : List MemPlace)
    (hval : ∀ (j : Nat) t v, Try.f9.params[j]? = some t → args[j]? = some v → Value.okWide Try.prog W .any base t v)
    (hW : DataW.Whole enc Try.prog Try.f9.params.toList Rows.walReadsSpec.vars false W args.toList ds gs before) :
    Calls Try.prog 9 args W fun e W' => ∃ v, e = .returned v ∧ Rows.walReadsSpec.post enc Try.prog Try.f9 false true false false W args v W' := by
  have hW' := hW
  obtain ⟨p, q, hA0, hV, rfl, hfz, hnd⟩ := hW
  have hA : DataW.TrodAll enc Try.prog W 0 (fun _ => true) true Try.f9.params.toList args.toList ds p := hA0
  rw [Try.params9] at hA hval
  obtain ⟨v0, vs0, d0, ds0, p0, q0, hargs, rfl, rfl, h0, r0⟩ := trodAll_cons hA
  obtain ⟨v1, vs1, d1, ds1, p1, q1, rfl, rfl, rfl, h1, r1⟩ := trodAll_cons r0
  obtain ⟨v2, vs2, d2, ds2, p2, q2, rfl, rfl, rfl, h2, r2⟩ := trodAll_cons r1
  obtain ⟨rfl, rfl, rfl⟩ := trodAll_nil r2
  obtain rfl : args = #[v0, v1, v2] := by cases args; simp_all
  obtain ⟨rfl, rfl⟩ := trodVars_none hV
  clear hA0
  have t0 : Tr enc prog (fun _ => True) W 37 [v0] := Tr.ofSlice u37 (hval 0 37 v0 rfl rfl) h0 trivial
  have t1 : Tr enc prog (fun _ => True) W 3 [v1] := Tr.ofInt u3 (hval 1 3 v1 rfl rfl) h1 trivial
  have t2 : Tr enc prog (fun _ => True) W 5 [v2] := Tr.ofInt u5 (hval 2 5 v2 rfl rfl) h2 trivial
  obtain ⟨p, c, xs, rfl, _, hx, hin⟩ := tr_blocks Her.all t0
  obtain ⟨n, e0, hn⟩ := Tr.int u3 t1
  cases e0
  obtain ⟨k, e0, hk⟩ := Tr.int u5 t2
  cases e0
  have hk0 : (0 : Int) ≤ k := hk.1
  have hk1 : k ≤ 255 := hk.2
  obtain ⟨tb, rfl⟩ : ∃ tb : Nat, k = tb := ⟨k.toNat, by omega⟩
  refine ((wal_reads W p c xs.length xs n tb [old W] rfl (hin.inl []) (fun b h => (hx b h).1) (fun b h => (hx b h).2) (by omega)) W (Sat.start W)).mono fun e W' hq => ?_
  obtain ⟨v, l', rfl, hs, rfl, rfl⟩ := hq
  exact ⟨_, rfl, law_post laidOut_ rfl rfl u4 wal_reads_reads hW' rfl rfl rfl hs.below⟩
set_option maxRecDepth 100000 in
theorem wal_reads_lifted (os : Os) (started : os.Started) (H : Type) (enc : TypeId × Value → H) :
    ReturnsInHanded {} Try.checked os 9 .any (Rows.walReadsSpec.pre6 enc Try.prog Try.f9 Rows.walReadsRow.domain false) (Rows.walReadsSpec.post enc Try.prog Try.f9 false true false false) := by
  refine returnsInHanded_of_change (C := Try.checked) own_ started (by kernel_rfl) Try.func9
    (ChangeSpec.witness6 (enc := enc) (C := Try.checked) false ⟨#[], #[.slice none 0 0, .int .i64 0, .int .u8 0], []⟩ 8 (by kernel_rfl) (by kernel_rfl) (by kernel_rfl) (by kernel_rfl)) ?_
  intro W base args ds gs before hval hW _ _
  exact wal_reads_contract H enc W base args ds gs before hval hW
theorem wal_reads_holds : Rows.WalReadsSaid :=
  OpenClaim.holds_of_wide 9 Try.f9 rfl rfl rfl rfl rfl rfl rfl ⟨rfl, rfl, rfl, rfl, rfl⟩ rfl rfl rfl rfl rfl (by kernel_rfl) Try.func9 (by kernel_rfl)
    (of_decide_eq_true (by kernel_rfl)) (by unfold Func.isWrapper; first | (rw [if_pos (by decide +kernel)]; kernel_rfl) | (rw [if_neg (by decide +kernel)]; exact ⟨rfl, rfl⟩))
    (fun os started H enc _ => wal_reads_lifted os started H enc)
end
end Go.Proofs.Ytmgagkpokmaefaa
