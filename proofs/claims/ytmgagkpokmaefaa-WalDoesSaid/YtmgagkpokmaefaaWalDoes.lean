
/-
  hollowtreelaw12.WalDoes returns true for every input, and leaves its input as it was. No condition.
-/
import Derived.Test.YtmgagkpokmaefaaJoin7
import Derived.Test.YtmgagkpokmaefaaJoin8
namespace Go.Proofs.Ytmgagkpokmaefaa
open Go Go.SL
section
/-- A log, its disk, and what it is to tell. -/
structure DoI (K : HProp) (N i : Nat) (S : Sb) (D : Dk) (L : Lg) (pv : Option Addr) (pc : Nat) (vals : List Value) : Prop where
  lh : LH S D L
  len : D.safe.length = N
  few : L.txs.length ≤ i
  turn : S.turn.toNat ≤ i
  snap : InL [K] pv L.snap.length pc (ints .u8 L.snap)
  tx : TxB K vals L.txs
theorem TxB.snoc {K : HProp} {vals : List Value} {txs : List (List Int)} (h : TxB K vals txs) {q : Option Addr} {c : Nat} {b : List Int} (hb : InL [K] q b.length c (ints .u8 b)) : TxB K (vals ++ [.slice q b.length c]) (txs ++ [b]) :=
  ⟨by simp [h.len], fun i t ht => by
    rcases Nat.lt_or_ge i txs.length with hi | hi
    · obtain ⟨p, z, h1, h2⟩ := h.get i t (by rwa [List.getElem?_append_left hi] at ht)
      exact ⟨p, z, by rw [List.getElem?_append_left (by rw [h.len]; exact hi)]; exact h1, h2⟩
    · have hi2 : i = txs.length := by
        rcases Nat.lt_or_ge i (txs ++ [b]).length with h3 | h3
        · simp at h3; omega
        · rw [List.getElem?_eq_none h3] at ht; cases ht
      subst hi2
      rw [List.getElem?_append_right (Nat.le_refl _), Nat.sub_self] at ht
      cases ht
      exact ⟨q, c, by rw [List.getElem?_append_right (by rw [h.len]; exact Nat.le_refl _), h.len, Nat.sub_self]; rfl, hb⟩⟩
theorem TxB.nil (K : HProp) : TxB K [] [] := ⟨rfl, fun i b h => by simp at h⟩
attribute [local irreducible] J JL JE JM LS Y Fc RV Code.wp wpList Code.wpIn wpListIn
attribute [local irreducible] Yc
variable (E : World)
set_option maxHeartbeats 1000000 in
theorem wal_does (nn : Int) (p : Option Addr) (cap : Nat) (xs : List Op12) (K : HProp) (hin : InL [K] p xs.length cap (xs.flatMap opE)) (hx : ∀ o ∈ xs, o.Ok [K]) :
    Fc prog E 8 [.int .i64 nn, .slice p xs.length cap].toArray [K] (fun v l' => v = .bool true ∧ l' = [K]) := by
  refine Fc.eqs ?_
  have hN := storeN_le nn
  obtain ⟨hL0, hl0⟩ := lh_format (n := storeN nn) hN.1 (by omega)
  obtain ⟨D0, hD0⟩ : ∃ D0, (Dk.new (storeN nn)).formatted = D0 := ⟨_, rfl⟩
  obtain ⟨N, hNe⟩ : ∃ N, storeN nn = N := ⟨_, rfl⟩
  rw [hD0] at hL0 hl0
  rw [hNe] at hl0 hN
  have hone : ∀ x ∈ xs, (opE x).length = 2 := fun x _ => rfl
  obtain ⟨m0, hm0⟩ : ∃ m, min xs.length 30 = m := ⟨_, rfl⟩
  have hI0 : DoI K N 0 sb0 D0 lg0 none 0 [] := ⟨hL0, hl0, Nat.le_refl _, Nat.le_refl _, InL.none12, TxB.nil K⟩
  have cfew : ∀ l, Fc prog E 31 [.slice p xs.length cap].toArray l (fun v l' => v = .slice p m0 cap ∧ l' = l) := fun l => by rw [← hm0]; exact few12_spec E p xs.length cap _ l _ hin
  refine Fc.of_body (c := ?codeC) Try.func8 ?hb Try.ntmps8 ?hl ?_
  case hb => exact rfl
  case hl => exact rfl
  refine J.seq ?_
  refine J.region ?_
  refine JL.step (y_assign rfl) rfl rfl rfl ?_
  refine JL.nil ?_
  refine JE.then_normal ?_
  refine J.seq ?_
  refine J.seq ?_
  refine J.region ?_
  refine JL.loud rfl (l_callF e11 rfl rfl (wakes12_spec E _) ?_)
  rintro _ l1 ⟨rfl, e1⟩
  obtain rfl := e1.symm
  refine JL.step (y_not rfl) rfl rfl rfl ?_
  refine JL.nil ?_
  refine JE.then_normal ?_
  refine J.cond_f rfl (by (first | rfl | assumption | (simp; done) | (simp; omega))) ?_
  refine J.skip ?_
  refine JE.then_normal ?_
  refine J.seq ?_
  refine J.region ?_
  refine JL.step (y_move rfl) rfl rfl rfl ?_
  refine JL.loud rfl (l_callF e12 rfl rfl (store_spec E nn _) ?_)
  rintro _ _ ⟨d, st, rfl, rfl⟩
  rw [hD0]
  refine JL.step (y_move rfl) rfl rfl rfl (JL.step (y_extract rfl rfl) rfl rfl rfl (JL.step (y_extract rfl rfl) rfl rfl rfl (JL.step (y_assign rfl) rfl rfl rfl (JL.step (y_assign rfl) rfl rfl rfl ?_))))
  refine JL.nil ?_
  refine JE.then_normal ?_
  refine J.seq ?_
  refine J.region ?_
  refine JL.step (y_move rfl) rfl rfl rfl ?_
  refine JL.loud rfl (l_callF e13 rfl rfl (Fc.on (Split.cons (by (repeat (first | exact Pick.head | apply Pick.tail | apply Pick.app))) (Split.cons (by (repeat (first | exact Pick.head | apply Pick.tail | apply Pick.app))) Split.nil)) (lopen_lh E st d sb0 D0 lg0 _ hL0)) ?_)
  rintro _ _ ⟨lg, rfl, rfl⟩
  refine JL.step (y_move rfl) rfl rfl rfl (JL.step (y_extract rfl rfl) rfl rfl rfl (JL.step (y_extract rfl rfl) rfl rfl rfl (JL.step (y_assign rfl) rfl rfl rfl (JL.step (y_assign rfl) rfl rfl rfl ?_))))
  refine JL.nil ?_
  refine JE.then_normal ?_
  refine J.seq ?_
  refine J.seq ?_
  refine J.region ?_
  refine JL.step (y_move rfl) rfl rfl rfl (JL.step (y_ptr_eq_nil hT rfl rfl rfl rfl) rfl rfl rfl (JL.step (y_move rfl) rfl rfl rfl ?_))
  all_goals (first | (refine JL.gsplit_dec rfl rfl rfl (fun h => ?_) (fun h => ?_) <;> try (first | (exfalso; omega) | exact absurd rfl h)) | (refine JL.gsplit rfl rfl rfl (fun h => ?_) (fun h => ?_) <;> try (first | cases h | (exfalso; simp at h; done))) | skip)
  all_goals (first | refine JL.gskip rfl rfl rfl rfl rfl rfl ?_ | refine JL.gskipU rfl rfl rfl rfl rfl ?_ | refine JL.gstep rfl rfl rfl (y_move rfl) rfl rfl ?_)
  all_goals (first | refine JL.gskip rfl rfl rfl rfl rfl rfl ?_ | refine JL.gskipU rfl rfl rfl rfl rfl ?_ | refine JL.gstep rfl rfl rfl (y_neq rfl rfl) rfl rfl ?_)
  all_goals (refine JL.step (y_pick rfl rfl rfl) rfl rfl rfl ?_)
  all_goals refine JL.nil ?_
  all_goals refine JE.then_normal ?_
  all_goals
    refine J.cond_f rfl (by (first | rfl | assumption | (simp; done) | (simp; omega))) ?_
    refine J.skip ?_
  all_goals refine JE.then_normal ?_
  all_goals
    refine J.seq ?_
    refine J.region ?_
    refine JL.step (y_assign rfl) rfl rfl rfl ?_
    refine JL.nil ?_
    refine JE.then_normal ?_
    refine J.seq ?_
    refine J.region ?_
    refine JL.step (y_assign rfl) rfl rfl rfl ?_
    refine JL.nil ?_
    refine JE.then_normal ?_
    refine J.seq ?_
    refine J.seq ?_
    refine J.region ?_
    refine JL.step (y_move rfl) rfl rfl rfl ?_
    refine JL.loud rfl (l_callF e31 rfl rfl (cfew _) ?_)
    rintro _ _ ⟨rfl, rfl⟩
    refine JL.step (y_len_slice hT rfl rfl rfl) rfl rfl rfl (JL.step (y_move rfl) rfl rfl rfl ?_)
    refine JL.nil ?_
    refine JE.then_normal ?_
    refine J.block ?_
    refine J.loop (α := Nat × Sb × Dk × Lg × Nat × Option Addr × Nat × Option Addr × Nat × List Value) (fun s => s.1 ≤ m0 ∧ DoI K N s.1 s.2.1 s.2.2.1 s.2.2.2.1 s.2.2.2.2.2.1 s.2.2.2.2.2.2.1 s.2.2.2.2.2.2.2.2.2) (fun s => [(6, .pointer (some ⟨st, 0, none⟩)), (7, .pointer (some ⟨s.2.2.2.2.1, 0, none⟩)), (9, .slice s.2.2.2.2.2.1 s.2.2.2.1.snap.length s.2.2.2.2.2.2.1), (10, .slice s.2.2.2.2.2.2.2.1 s.2.2.2.1.txs.length s.2.2.2.2.2.2.2.2.1), (39, .slice p m0 cap), (40, .int .i64 m0), (41, .int .i64 s.1)]) (fun s => logm s.2.2.2.2.1 st s.2.2.2.1 :: row st 90 (scells s.2.1 d) :: disk d s.2.2.1 :: own 36 1 (.slice s.2.2.2.2.2.2.2.1 s.2.2.2.1.txs.length s.2.2.2.2.2.2.2.2.1) s.2.2.2.1.txs.length s.2.2.2.2.2.2.2.2.2 :: [K]) (fun s => m0 - s.1) (0, sb0, D0, lg0, lg, none, 0, none, 0, []) ⟨Nat.zero_le _, hI0⟩ ⟨rfl, rfl, rfl, rfl, rfl, rfl, rfl, trivial⟩ (fun w h => h.own_nil.sup (by (repeat (first | exact Sup.refl | apply Sup.cons (by (repeat (first | exact Pick.head | apply Pick.tail | apply Pick.app))) | apply Sup.app | apply Sup.skip | apply Sup.skips)))) ?_
    rintro ⟨i, S, D, L, lg, pv, pc, q, c, vals⟩ ⟨hi, hI⟩
    dsimp only at hi hI ⊢
    obtain ⟨n, hn⟩ : ∃ n, L.txs.length = n := ⟨_, rfl⟩
    rw [hn]
    have hL := hI.lh
    have hus := hL.used
    have hfit := hL.fit
    have hsl : D.slots ≤ 512 := hL.slots
    have hfew := hI.few
    have htn := hI.turn
    rw [hn] at hfew
    refine J.seq ?_
    refine J.region ?_
    refine JL.step (y_lss rfl rfl) rfl rfl rfl ?_
    refine JL.nil ?_
    refine JE.then_normal ?_
    refine J.seq ?_
    focus
      first | apply J.cond_dec rfl | apply J.cond rfl
      focus
        intro h
        try (first | (exfalso; omega) | (cases h; done) | (exfalso; simp at h; done) | subst h)
        all_goals
          refine J.skip ?_
      rotate_right 1
      focus
        intro h
        try (first | (exfalso; omega) | (cases h; done) | (exfalso; simp at h; done) | subst h)
        all_goals
          refine J.exit ?_
          refine JE.then_exit ?_
          refine JE.then_exit ?_
          refine JE.block_exit ?_
          refine JE.then_normal ?_
          refine J.seq ?_
          refine J.region ?_
          refine JL.step (y_assign rfl) rfl rfl rfl ?_
          refine JL.nil ?_
          refine JE.then_normal ?_
          refine J.ret ?_
          refine JE.ret1 (.inl rfl) rfl rfl (by (first | exact RV.tmp rfl | exact RV.cell1 hT rfl rfl rfl (by (exact Rd1.row (by (repeat (first | exact Pick.head | apply Pick.tail | apply Pick.app))) (by rfl))) | exact RV.cellN hT rfl rfl rfl (by (first | exact RdN.rowAll (by (repeat (first | exact Pick.head | apply Pick.tail | apply Pick.app))) | exact RdN.own (by (repeat (first | exact Pick.head | apply Pick.tail | apply Pick.app))))) (by (first | rfl | assumption | (simp; done) | omega)))) ?_
          exact ⟨rfl, fun w q => q.sup (by (repeat (first | exact Sup.refl | apply Sup.cons (by (repeat (first | exact Pick.head | apply Pick.tail | apply Pick.app))) | apply Sup.app | apply Sup.skip | apply Sup.skips)))⟩
    all_goals refine JE.then_normal ?_
    all_goals
      refine J.seq ?_
      refine J.block ?_
      refine J.seq ?_
      have hlt : i < m0 := by omega
      obtain ⟨go, oo, rfl, hro⟩ := hin.addr (by omega)
      have hro0 : RdN [K] go oo (xs.flatMap opE) := hro []
      obtain ⟨o, ho⟩ : ∃ o, xs[i]? = some o := ⟨_, List.getElem?_eq_getElem (by omega)⟩
      have hok := hx o (List.mem_of_getElem? ho)
      obtain ⟨b, hb⟩ : ∃ b, o.b = b := ⟨_, rfl⟩
      obtain ⟨k, hk⟩ : ∃ k, b.length = k := ⟨_, rfl⟩
      obtain ⟨bp, hbp⟩ : ∃ bp, o.p = bp := ⟨_, rfl⟩
      obtain ⟨bc, hbc⟩ : ∃ bc, o.c = bc := ⟨_, rfl⟩
      have hsm : Small b := by rw [← hb]; exact hok.small
      have hbin : InL [K] bp k bc (ints .u8 b) := by rw [← hk, ← hb, ← hbp, ← hbc]; exact hok.binl
      have hk25 : k ≤ 2500 := by rw [← hk, ← hb, o.b_len]; omega
      have cbytes : ∀ l, Fc prog E 32 [.agg (opE o).toArray].toArray l (fun v l' => v = .slice bp k bc ∧ l' = l) := fun l => by rw [← hk, ← hb, ← hbp, ← hbc]; exact bytes12_spec E o l [K] hok
      have hel : (opE o).length = 2 := rfl
      have heo := opE_one o
      have hSk : (ints .u8 (b ++ [7])).length = k + 1 := by simp [ints, hk]
      refine J.region ?_
      refine JL.step (y_indexAddr_slice hT rfl rfl rfl rfl rfl (by (first | omega | exact Nat.le_of_ble_eq_true rfl | decide | (simp; omega))) (by (first | omega | exact Nat.le_of_ble_eq_true rfl | decide | (simp; omega)))) rfl rfl rfl ?_
      refine JL.step (y_loadN hT rfl rfl rfl (RdN.elem (by (repeat (first | assumption | apply RdN.cons | apply RdN.app))) hone ho) hel) rfl rfl rfl ?_
      refine JL.loud rfl (l_alloc hT rfl rfl (by (first | rfl | simp)) rfl (fun b5 => ?_))
      refine JL.loud rfl (l_storeAll hT rfl rfl rfl (by (first | rfl | assumption | (simp; done) | omega)) (by (first | assumption | exact ones_of rfl | exact encW_one _ | exact encB_one _ | (intro u hu; simp at hu; rcases hu with rfl | rfl <;> rfl) | (intro u hu; simp at hu; subst hu; rfl) | simp)) (by (repeat (first | exact Pick.head | apply Pick.tail | apply Pick.app))) (by (first | rfl | assumption | (simp; done) | omega)) ?_)
      refine JL.nil ?_
      refine JE.then_normal ?_
      refine J.seq ?_
      refine J.region ?_
      refine JL.step (y_loadN hT rfl rfl rfl (by (first | exact RdN.rowAll (by (repeat (first | exact Pick.head | apply Pick.tail | apply Pick.app))) | exact RdN.own (by (repeat (first | exact Pick.head | apply Pick.tail | apply Pick.app))))) (by (first | rfl | assumption | (simp; done) | omega))) rfl rfl rfl ?_
      refine JL.loud rfl (l_callF e32 rfl rfl (cbytes _) ?_)
      rintro _ _ ⟨rfl, rfl⟩
      refine JL.step (y_assign rfl) rfl rfl rfl ?_
      refine JL.nil ?_
      refine JE.then_normal ?_
      refine J.seq ?_
      refine J.region ?_
      refine JL.step (y_move rfl) rfl rfl rfl (JL.step (y_len_slice hT rfl rfl rfl) rfl rfl rfl ?_)
      refine JL.step (y_add (m := ((k + 3 : Nat) : Int)) rfl rfl (by rw [show (k : Int) + 3 = ((k + 3 : Nat) : Int) by omega]; exact wrap_i64 (by omega) (by omega))) rfl rfl rfl ?_
      refine JL.loud rfl (l_makeSlice hT rfl rfl rfl rfl rfl rfl (by (first | omega | exact Nat.le_of_ble_eq_true rfl | decide | (simp; omega))) (by (first | omega | exact Nat.le_of_ble_eq_true rfl | decide | (simp; omega))) (mk_fits rfl (by (first | omega | exact Nat.le_of_ble_eq_true rfl | decide | (simp; omega))) (by (first | omega | exact Nat.le_of_ble_eq_true rfl | decide | (simp; omega)))) (by (first | omega | exact Nat.le_of_ble_eq_true rfl | decide | (simp; omega))) rfl (fun bz => ?_))
      refine JL.pre (fun w q => q.own_made (by unfold maxLen; rw [Int.toNat_natCast]; omega)) ?_
      refine JL.step (y_move rfl) rfl rfl rfl ?_
      refine JL.loud rfl (l_appendIn (nn := 0) (m := k) hT rfl rfl rfl rfl rfl rfl rfl rfl (by (repeat (first | exact Pick.head | apply Pick.tail | apply Pick.app))) (hbin.kept (by (repeat (first | exact Pick.head | apply Pick.tail | apply Pick.app)))) (by rw [show i5.size = 1 from rfl]; simp [ints, hk]) (ints_one _ _) (by rw [show i5.bytes = 1 from rfl]; omega) (by omega) rfl (fun za zc hzc => ?_))
      rw [Nat.zero_add, List.nil_append (ints .u8 b)]
      refine JL.loud rfl (l_buildSliceP (cs := ints .u8 [7]) hT rfl rfl rfl rfl rfl rfl rfl (by (first | exact fill_one rfl (by first | assumption | rfl | (simp; done)) | rfl | simp)) rfl (fun b7 => ?_))
      refine JL.loud rfl (l_appendIn (nn := k) (m := 1) hT rfl rfl rfl rfl rfl rfl rfl rfl (by (repeat (first | exact Pick.head | apply Pick.tail | apply Pick.app))) (InL.ofRow (cs := ints .u8 [7]) (by (repeat (first | exact Pick.head | apply Pick.tail | apply Pick.app))) (by decide)) (by rfl) (ints_one _ _) (by rw [show i5.bytes = 1 from rfl]; omega) (by omega) rfl (fun oa oc hoc => ?_))
      rw [show ints .u8 b ++ ints .u8 [7] = ints .u8 (b ++ [7]) by simp [ints]]
      refine JL.fact (p := OwnAt oa (k + 1) oc (ints .u8 (b ++ [7]))) (fun w s => Sat.own_at (s.pick (by (repeat (first | exact Pick.head | apply Pick.tail | apply Pick.app))))) fun oS => ?_
      have hcut : ∀ l r', Pick l (own 5 1 (.slice oa (k + 1) oc) (k + 1) (ints .u8 (b ++ [7]))) r' → InL l oa k oc (ints .u8 b) := fun l r' hp => by
        have q := (oS.inl hp).cutTo k k (by omega)
        rwa [show (ints .u8 (b ++ [7])).take k = ints .u8 b by rw [← hk]; simp [ints]] at q
      refine JL.step (y_assign rfl) rfl rfl rfl ?_
      refine JL.nil ?_
      refine JE.then_normal ?_
      refine J.seqK (α := Sb × Dk × Lg × Nat × Option Addr × Nat × Option Addr × Nat × List Value) (fun s => DoI K N (i + 1) s.1 s.2.1 s.2.2.1 s.2.2.2.2.1 s.2.2.2.2.2.1 s.2.2.2.2.2.2.2.2) (fun s => [(6, .pointer (some ⟨st, 0, none⟩)), (7, .pointer (some ⟨s.2.2.2.1, 0, none⟩)), (9, .slice s.2.2.2.2.1 s.2.2.1.snap.length s.2.2.2.2.2.1), (10, .slice s.2.2.2.2.2.2.1 s.2.2.1.txs.length s.2.2.2.2.2.2.2.1), (13, .slice bp k bc), (14, .slice oa (k + 1) oc), (39, .slice (some ⟨go, oo, none⟩) m0 cap), (40, .int .i64 m0), (41, .int .i64 i)]) (fun s => own 5 1 (.slice oa (k + 1) oc) (k + 1) (ints .u8 (b ++ [7])) :: logm s.2.2.2.1 st s.2.2.1 :: row st 90 (scells s.1 d) :: disk d s.2.1 :: own 36 1 (.slice s.2.2.2.2.2.2.1 s.2.2.1.txs.length s.2.2.2.2.2.2.2.1) s.2.2.1.txs.length s.2.2.2.2.2.2.2.2 :: [K]) ?hj34 (fun hk34 => ?hf34)
      case hf34 =>
        refine J.seq ?_
        refine J.region ?_
        refine JL.step (y_loadN hT rfl rfl rfl (by (first | exact RdN.rowAll (by (repeat (first | exact Pick.head | apply Pick.tail | apply Pick.app))) | exact RdN.own (by (repeat (first | exact Pick.head | apply Pick.tail | apply Pick.app))))) (by (first | rfl | assumption | (simp; done) | omega))) rfl rfl rfl ?_
        refine JL.loud rfl (l_callF e33 rfl rfl (kind12_spec E o _) ?_)
        rintro _ _ ⟨rfl, rfl⟩
        refine JL.nil ?_
        refine JE.then_normal ?_
        refine J.block ?_
        refine J.seq ?_
        refine J.region ?_
        refine JL.step (y_eql rfl rfl) rfl rfl rfl (JL.step (y_assign rfl) rfl rfl rfl ?_)
        refine JL.nil ?_
        refine JE.then_normal ?_
        focus
          first | apply J.cond_dec rfl | apply J.cond rfl
          focus
            intro h
            try (first | (exfalso; omega) | (cases h; done) | (exfalso; simp at h; done) | subst h)
            all_goals
              refine J.seq ?_
              obtain ⟨bo, hbo⟩ : ∃ bo, decide (L.used + needN k ≤ D.slots) = bo := ⟨_, rfl⟩
              have hle : decide ((usedN L.txs : Int) + (needN k : Int) ≤ (D.slots : Int)) = bo := by rw [← hbo]; exact decide_eq_decide.2 (by omega)
              have croom : ∀ l, Fc prog E 16 [.pointer (some ⟨lg, 0, none⟩), .int .i64 (k : Int)].toArray (logm lg st L :: row st 90 (scells S d) :: disk d D :: l) (fun v l' => v = .bool bo ∧ l' = logm lg st L :: row st 90 (scells S d) :: disk d D :: l) := fun l => by
                have q := lroom_spec E lg st d L S D l hL.holds.fits.hash hL.holds.fits.two (k : Int) (by omega)
                rwa [show roomB L D (k : Int) = bo from by rw [← hbo, Bool.eq_iff_iff, roomB_iff hL, decide_eq_true_iff]] at q
              have hnk : needN k ≤ 41 := by unfold needN; omega
              obtain ⟨L', D', e, eA, hL', hd', hor⟩ := hL.put hsm
              rw [hk] at hor
              have hor2 : (L.used + needN k ≤ D.slots ∧ bo = true ∧ e = 0 ∧ L' = { L with txs := L.txs ++ [b], used := L.used + needN k } ∧ L'.txs.length = n + 1) ∨ (¬ L.used + needN k ≤ D.slots ∧ bo = false ∧ e = 6 ∧ L' = L ∧ D' = D) := by
                rcases hor with ⟨h1, h2, h3⟩ | ⟨h1, h2, h3, h4⟩
                · exact .inl ⟨h1, by rw [← hbo]; exact decide_eq_true h1, h2, h3, by rw [h3]; simp [hn]⟩
                · exact .inr ⟨h1, by rw [← hbo]; exact decide_eq_false h1, h2, h3, h4⟩
              have capp : ∀ l, InL l oa k oc (ints .u8 b) → Fc prog E 19 [.pointer (some ⟨lg, 0, none⟩), .slice oa k oc].toArray (logm lg st L :: row st 90 (scells S d) :: disk d D :: l) (fun v l' => v = .int .i64 e ∧ l' = logm lg st L' :: row st 90 (scells S d) :: disk d D' :: l) := fun l h => append_lh E lg st d l hL b oa oc k hk hsm (by omega) eA h
              have cused : ∀ l, InL l q n c vals → Fc prog E 34 [.slice q n c].toArray l (fun v l' => v = .int .i64 (usedN L.txs : Int) ∧ l' = l) := fun l h => rused_spec E q n c vals L.txs l hn (by omega) hL.smalls h (fun i b h => let ⟨q, c, e, _⟩ := hI.tx.get i b h; ⟨q, c, e⟩)
              rcases hor2 with ⟨hA1, rfl, rfl, hLe, hLn1⟩ | ⟨hA0, rfl, rfl, rfl, rfl⟩
              all_goals
                refine J.region ?_
                refine JL.step (y_move rfl) rfl rfl rfl ?_
                refine JL.loud rfl (l_callF e34 rfl rfl (Fc.fact (p := OwnAt q n c vals) (fun w s => Sat.own_at (s.pick (by (repeat (first | exact Pick.head | apply Pick.tail | apply Pick.app))))) fun oq => cused _ (oq.inl (by (repeat (first | exact Pick.head | apply Pick.tail | apply Pick.app))))) ?_)
                rintro _ _ ⟨rfl, rfl⟩
                refine JL.step (y_move rfl) rfl rfl rfl (JL.step (y_len_slice hT rfl rfl rfl) rfl rfl rfl ?_)
                refine JL.loud rfl (l_callF e15 rfl rfl (rneed_spec E k (by omega) _) ?_)
                rintro _ _ ⟨rfl, rfl⟩
                refine JL.step (y_add rfl rfl (by (first | exact wrap_i64 (by omega) (by omega) | rfl))) rfl rfl rfl ?_
                refine JL.step (y_move rfl) rfl rfl rfl ?_
                refine JL.loud rfl (l_callF e17 rfl rfl (Fc.on (Split.cons (by (repeat (first | exact Pick.head | apply Pick.tail | apply Pick.app))) (Split.cons (by (repeat (first | exact Pick.head | apply Pick.tail | apply Pick.app))) Split.nil)) (slots_spec E st d S _ _ hL.holds.fits.hash hL.holds.fits.two)) ?_)
                rintro _ _ ⟨rfl, rfl⟩
                refine JL.step (y_leqB rfl rfl hle) rfl rfl rfl ?_
                refine JL.step (y_assign rfl) rfl rfl rfl ?_
                refine JL.nil ?_
              all_goals refine JE.then_normal ?_
              all_goals
                refine J.seq ?_
                refine J.seq ?_
                refine J.region ?_
                refine JL.step (y_move rfl) rfl rfl rfl (JL.step (y_move rfl) rfl rfl rfl (JL.step (y_len_slice hT rfl rfl rfl) rfl rfl rfl ?_))
                refine JL.loud rfl (l_callF e16 rfl rfl (Fc.on (Split.cons (by (repeat (first | exact Pick.head | apply Pick.tail | apply Pick.app))) (Split.cons (by (repeat (first | exact Pick.head | apply Pick.tail | apply Pick.app))) (Split.cons (by (repeat (first | exact Pick.head | apply Pick.tail | apply Pick.app))) Split.nil))) (croom _)) ?_)
                rintro _ _ ⟨rfl, rfl⟩
                refine JL.step (y_move rfl) rfl rfl rfl (JL.step (y_bool_ne hT rfl rfl rfl rfl) rfl rfl rfl ?_)
                refine JL.nil ?_
                refine JE.then_normal ?_
                refine J.cond_f rfl (by (first | rfl | assumption | (simp; done) | (simp; omega))) ?_
                refine J.skip ?_
                refine JE.then_normal ?_
                refine J.seq ?_
                refine J.region ?_
                refine JL.step (y_move rfl) rfl rfl rfl (JL.step (y_move rfl) rfl rfl rfl (JL.step (y_move rfl) rfl rfl rfl (JL.step (y_len_slice hT rfl rfl rfl) rfl rfl rfl ?_)))
                refine JL.step (y_cutTo hT rfl rfl rfl rfl rfl rfl (show k ≤ k + 1 by omega) (oS.inl (l := [own 5 1 (.slice oa (k + 1) oc) (k + 1) (ints .u8 (b ++ [7]))]) Pick.head)) rfl rfl rfl ?_
                refine JL.loud rfl (l_callF e19 rfl rfl (Fc.on (Split.cons (by (repeat (first | exact Pick.head | apply Pick.tail | apply Pick.app))) (Split.cons (by (repeat (first | exact Pick.head | apply Pick.tail | apply Pick.app))) (Split.cons (by (repeat (first | exact Pick.head | apply Pick.tail | apply Pick.app))) Split.nil))) (capp _ (hcut _ _ (by (repeat (first | exact Pick.head | apply Pick.tail | apply Pick.app)))))) ?_)
                rintro _ _ ⟨rfl, rfl⟩
                refine JL.step (y_assign rfl) rfl rfl rfl ?_
                refine JL.nil ?_
                refine JE.then_normal ?_
                refine J.seq ?_
                refine J.seq ?_
                refine J.region ?_
                refine JL.step (y_move rfl) rfl rfl rfl (JL.step (y_move rfl) rfl rfl rfl ?_)
                all_goals (first | (refine JL.gsplit_dec rfl rfl rfl (fun h => ?_) (fun h => ?_) <;> try (first | (exfalso; omega) | exact absurd rfl h)) | (refine JL.gsplit rfl rfl rfl (fun h => ?_) (fun h => ?_) <;> try (first | cases h | (exfalso; simp at h; done))) | skip)
                all_goals (first | refine JL.gskip rfl rfl rfl rfl rfl rfl ?_ | refine JL.gskipU rfl rfl rfl rfl rfl ?_ | refine JL.gstep rfl rfl rfl (y_move rfl) rfl rfl ?_)
                all_goals (first | refine JL.gskip rfl rfl rfl rfl rfl rfl ?_ | refine JL.gskipU rfl rfl rfl rfl rfl ?_ | refine JL.gstep rfl rfl rfl (y_neq rfl rfl) rfl rfl ?_)
                all_goals (refine JL.step (y_pick rfl rfl rfl) rfl rfl rfl ?_)
                all_goals (refine JL.step (y_move rfl) rfl rfl rfl ?_)
                all_goals (first | (refine JL.gsplit_dec rfl rfl rfl (fun h => ?_) (fun h => ?_) <;> try (first | (exfalso; omega) | exact absurd rfl h)) | (refine JL.gsplit rfl rfl rfl (fun h => ?_) (fun h => ?_) <;> try (first | cases h | (exfalso; simp at h; done))) | skip)
                all_goals (first | refine JL.gskip rfl rfl rfl rfl rfl rfl ?_ | refine JL.gskipU rfl rfl rfl rfl rfl ?_ | refine JL.gstep rfl rfl rfl (y_move rfl) rfl rfl ?_)
                all_goals (first | refine JL.gskip rfl rfl rfl rfl rfl rfl ?_ | refine JL.gskipU rfl rfl rfl rfl rfl ?_ | refine JL.gstep rfl rfl rfl (y_not rfl) rfl rfl ?_)
                all_goals (first | refine JL.gskip rfl rfl rfl rfl rfl rfl ?_ | refine JL.gskipU rfl rfl rfl rfl rfl ?_ | refine JL.gstep rfl rfl rfl (y_move rfl) rfl rfl ?_)
                all_goals (first | (refine JL.gsplit_dec rfl rfl rfl (fun h => ?_) (fun h => ?_) <;> try (first | (exfalso; omega) | exact absurd rfl h)) | (refine JL.gsplit rfl rfl rfl (fun h => ?_) (fun h => ?_) <;> try (first | cases h | (exfalso; simp at h; done))) | skip)
                all_goals (first | refine JL.gskip rfl rfl rfl rfl rfl rfl ?_ | refine JL.gskipU rfl rfl rfl rfl rfl ?_ | refine JL.gstep rfl rfl rfl (y_move rfl) rfl rfl ?_)
                all_goals (first | refine JL.gskip rfl rfl rfl rfl rfl rfl ?_ | refine JL.gskipU rfl rfl rfl rfl rfl ?_ | refine JL.gstep rfl rfl rfl (y_neq rfl rfl) rfl rfl ?_)
                all_goals (first | refine JL.gskip rfl rfl rfl rfl rfl rfl ?_ | refine JL.gskipU rfl rfl rfl rfl rfl ?_ | refine JL.gstep rfl rfl rfl (y_pick rfl rfl rfl) rfl rfl ?_)
                all_goals (refine JL.step (y_pick rfl rfl rfl) rfl rfl rfl ?_)
                all_goals refine JL.nil ?_
                all_goals refine JE.then_normal ?_
                all_goals
                  refine J.cond_f rfl (by (first | rfl | assumption | (simp; done) | (simp; omega))) ?_
                  refine J.skip ?_
                all_goals refine JE.then_normal ?_
                all_goals
                  refine J.seq ?_
                  refine J.region ?_
                  refine JL.step (y_move rfl) rfl rfl rfl ?_
                  refine JL.nil ?_
                  refine JE.then_normal ?_
                  focus
                    first | apply J.cond_dec rfl | apply J.cond rfl
                    focus
                      intro h
                      try (first | (exfalso; omega) | (cases h; done) | (exfalso; simp at h; done) | subst h)
                      all_goals
                        refine J.region ?_
                        refine JL.step (y_move rfl) rfl rfl rfl (JL.step (y_move rfl) rfl rfl rfl ?_)
                        refine JL.loud rfl (l_buildSliceP hT rfl rfl rfl rfl rfl rfl rfl (by (first | exact fill_one rfl (by first | assumption | rfl | (simp; done)) | rfl | simp)) rfl (fun b14 => ?_))
                        refine JL.loud rfl (l_append hT rfl rfl rfl rfl rfl rfl rfl rfl (by (repeat (first | exact Pick.head | apply Pick.tail | apply Pick.app))) (by (first | exact RdN.rowAll (by (repeat (first | exact Pick.head | apply Pick.tail | apply Pick.app))) | exact RdN.own (by (repeat (first | exact Pick.head | apply Pick.tail | apply Pick.app))))) (by (first | rfl | assumption | (simp; done) | omega)) (by (first | assumption | exact ones_of rfl | exact encW_one _ | exact encB_one _ | (intro u hu; simp at hu; rcases hu with rfl | rfl <;> rfl) | (intro u hu; simp at hu; subst hu; rfl) | simp)) (by rw [show i36.bytes = 24 from rfl]; omega) (by omega) rfl (fun na nc hnc => ?_))
                        refine JL.step (y_assign rfl) rfl rfl rfl ?_
                        refine JL.nil ?_
                    rotate_right 1
                    focus
                      intro h
                      try (first | (exfalso; omega) | (cases h; done) | (exfalso; simp at h; done) | subst h)
                      all_goals
                        refine J.skip ?_
          rotate_right 1
          focus
            intro h
            try (first | (exfalso; omega) | (cases h; done) | (exfalso; simp at h; done) | subst h)
            all_goals
              refine J.seq ?_
              refine J.region ?_
              refine JL.step (y_eql rfl rfl) rfl rfl rfl (JL.step (y_assign rfl) rfl rfl rfl ?_)
              refine JL.nil ?_
              refine JE.then_normal ?_
              focus
                first | apply J.cond_dec rfl | apply J.cond rfl
                focus
                  intro h
                  try (first | (exfalso; omega) | (cases h; done) | (exfalso; simp at h; done) | subst h)
                  all_goals
                    refine J.seq ?_
                    obtain ⟨bo, hbo⟩ : ∃ bo, decide (k ≤ 64 * D.half) = bo := ⟨_, rfl⟩
                    have hle : decide ((k : Int) ≤ ((64 * D.half : Nat) : Int)) = bo := by rw [← hbo]; exact decide_eq_decide.2 (by omega)
                    obtain ⟨L', S', D', e, eC, hL', hd', hor⟩ := hL.take hsm (by omega)
                    rw [hk] at hor
                    have hdh : D'.half = D.half := half_eq hd'
                    have hor2 : (k ≤ 64 * D.half ∧ bo = true ∧ e = 0 ∧ L' = ⟨b, [], 0, false⟩ ∧ S' = nextS S b) ∨ (¬ k ≤ 64 * D.half ∧ bo = false ∧ e = 3 ∧ L' = L ∧ S' = S ∧ D' = D) := by
                      rcases hor with ⟨h1, h2, h3, h4⟩ | ⟨h1, h2, h3, h4, h5⟩
                      · exact .inl ⟨h1, by rw [← hbo]; exact decide_eq_true h1, h2, h3, h4⟩
                      · exact .inr ⟨h1, by rw [← hbo]; exact decide_eq_false h1, h2, h3, h4, h5⟩
                    have ccheck : ∀ l, InL l oa k oc (ints .u8 b) → Fc prog E 18 [.pointer (some ⟨lg, 0, none⟩), .slice oa k oc].toArray (logm lg st L :: row st 90 (scells S d) :: disk d D :: l) (fun v l' => v = .int .i64 e ∧ l' = logm lg st L' :: row st 90 (scells S' d) :: disk d D' :: l) := fun l h => check_lh E lg st d l hL b oa oc k hk hsm eC h
                    have croom : ∀ l, Fc prog E 25 [.pointer (some ⟨st, 0, none⟩)].toArray (row st 90 (scells S' d) :: disk d D' :: l) (fun v l' => v = .int .i64 ((64 * D.half : Nat) : Int) ∧ l' = row st 90 (scells S' d) :: disk d D' :: l) := fun l => by
                      have q := room_spec E st d S' D' l hL'.holds.fits.hash hL'.holds.fits.two
                      rwa [hdh] at q
                    rcases hor2 with ⟨hC1, rfl, rfl, hLe, hSe⟩ | ⟨hC0, rfl, rfl, rfl, rfl, rfl⟩
                    all_goals
                      refine J.region ?_
                      refine JL.step (y_move rfl) rfl rfl rfl (JL.step (y_move rfl) rfl rfl rfl (JL.step (y_move rfl) rfl rfl rfl (JL.step (y_len_slice hT rfl rfl rfl) rfl rfl rfl ?_)))
                      refine JL.step (y_cutTo hT rfl rfl rfl rfl rfl rfl (show k ≤ k + 1 by omega) (oS.inl (l := [own 5 1 (.slice oa (k + 1) oc) (k + 1) (ints .u8 (b ++ [7]))]) Pick.head)) rfl rfl rfl ?_
                      refine JL.loud rfl (l_callF e18 rfl rfl (Fc.on (Split.cons (by (repeat (first | exact Pick.head | apply Pick.tail | apply Pick.app))) (Split.cons (by (repeat (first | exact Pick.head | apply Pick.tail | apply Pick.app))) (Split.cons (by (repeat (first | exact Pick.head | apply Pick.tail | apply Pick.app))) Split.nil))) (ccheck _ (hcut _ _ (by (repeat (first | exact Pick.head | apply Pick.tail | apply Pick.app)))))) ?_)
                      rintro _ _ ⟨rfl, rfl⟩
                      refine JL.step (y_assign rfl) rfl rfl rfl ?_
                      refine JL.nil ?_
                    all_goals refine JE.then_normal ?_
                    all_goals
                      refine J.seq ?_
                      refine J.region ?_
                      refine JL.step (y_move rfl) rfl rfl rfl (JL.step (y_len_slice hT rfl rfl rfl) rfl rfl rfl (JL.step (y_move rfl) rfl rfl rfl ?_))
                      refine JL.loud rfl (l_callF e25 rfl rfl (Fc.on (Split.cons (by (repeat (first | exact Pick.head | apply Pick.tail | apply Pick.app))) (Split.cons (by (repeat (first | exact Pick.head | apply Pick.tail | apply Pick.app))) Split.nil)) (croom _)) ?_)
                      rintro _ _ ⟨rfl, rfl⟩
                      refine JL.step (y_leqB rfl rfl hle) rfl rfl rfl ?_
                      refine JL.step (y_assign rfl) rfl rfl rfl ?_
                      refine JL.nil ?_
                      refine JE.then_normal ?_
                      refine J.seq ?_
                      refine J.region ?_
                      refine JL.step (y_move rfl) rfl rfl rfl (JL.step (y_move rfl) rfl rfl rfl ?_)
                      all_goals (first | (refine JL.gsplit_dec rfl rfl rfl (fun h => ?_) (fun h => ?_) <;> try (first | (exfalso; omega) | exact absurd rfl h)) | (refine JL.gsplit rfl rfl rfl (fun h => ?_) (fun h => ?_) <;> try (first | cases h | (exfalso; simp at h; done))) | skip)
                      all_goals (first | refine JL.gskip rfl rfl rfl rfl rfl rfl ?_ | refine JL.gskipU rfl rfl rfl rfl rfl ?_ | refine JL.gstep rfl rfl rfl (y_move rfl) rfl rfl ?_)
                      all_goals (first | refine JL.gskip rfl rfl rfl rfl rfl rfl ?_ | refine JL.gskipU rfl rfl rfl rfl rfl ?_ | refine JL.gstep rfl rfl rfl (y_neq rfl rfl) rfl rfl ?_)
                      all_goals (refine JL.step (y_pick rfl rfl rfl) rfl rfl rfl ?_)
                      all_goals (refine JL.step (y_move rfl) rfl rfl rfl ?_)
                      all_goals (first | (refine JL.gsplit_dec rfl rfl rfl (fun h => ?_) (fun h => ?_) <;> try (first | (exfalso; omega) | exact absurd rfl h)) | (refine JL.gsplit rfl rfl rfl (fun h => ?_) (fun h => ?_) <;> try (first | cases h | (exfalso; simp at h; done))) | skip)
                      all_goals (first | refine JL.gskip rfl rfl rfl rfl rfl rfl ?_ | refine JL.gskipU rfl rfl rfl rfl rfl ?_ | refine JL.gstep rfl rfl rfl (y_move rfl) rfl rfl ?_)
                      all_goals (first | refine JL.gskip rfl rfl rfl rfl rfl rfl ?_ | refine JL.gskipU rfl rfl rfl rfl rfl ?_ | refine JL.gstep rfl rfl rfl (y_not rfl) rfl rfl ?_)
                      all_goals (first | refine JL.gskip rfl rfl rfl rfl rfl rfl ?_ | refine JL.gskipU rfl rfl rfl rfl rfl ?_ | refine JL.gstep rfl rfl rfl (y_move rfl) rfl rfl ?_)
                      all_goals (first | (refine JL.gsplit_dec rfl rfl rfl (fun h => ?_) (fun h => ?_) <;> try (first | (exfalso; omega) | exact absurd rfl h)) | (refine JL.gsplit rfl rfl rfl (fun h => ?_) (fun h => ?_) <;> try (first | cases h | (exfalso; simp at h; done))) | skip)
                      all_goals (first | refine JL.gskip rfl rfl rfl rfl rfl rfl ?_ | refine JL.gskipU rfl rfl rfl rfl rfl ?_ | refine JL.gstep rfl rfl rfl (y_move rfl) rfl rfl ?_)
                      all_goals (first | refine JL.gskip rfl rfl rfl rfl rfl rfl ?_ | refine JL.gskipU rfl rfl rfl rfl rfl ?_ | refine JL.gstep rfl rfl rfl (y_neq rfl rfl) rfl rfl ?_)
                      all_goals (first | refine JL.gskip rfl rfl rfl rfl rfl rfl ?_ | refine JL.gskipU rfl rfl rfl rfl rfl ?_ | refine JL.gstep rfl rfl rfl (y_pick rfl rfl rfl) rfl rfl ?_)
                      all_goals (refine JL.step (y_pick rfl rfl rfl) rfl rfl rfl ?_)
                      all_goals refine JL.nil ?_
                      all_goals refine JE.then_normal ?_
                      all_goals
                        refine J.cond_f rfl (by (first | rfl | assumption | (simp; done) | (simp; omega))) ?_
                        refine J.seq ?_
                        refine J.region ?_
                        refine JL.step (y_move rfl) rfl rfl rfl ?_
                        refine JL.nil ?_
                        refine JE.then_normal ?_
                        focus
                          first | apply J.cond_dec rfl | apply J.cond rfl
                          focus
                            intro h
                            try (first | (exfalso; omega) | (cases h; done) | (exfalso; simp at h; done) | subst h)
                            all_goals
                              refine J.region ?_
                              refine JL.step (y_move rfl) rfl rfl rfl (JL.step (y_assign rfl) rfl rfl rfl (JL.step (y_assign rfl) rfl rfl rfl ?_))
                              refine JL.nil ?_
                          rotate_right 1
                          focus
                            intro h
                            try (first | (exfalso; omega) | (cases h; done) | (exfalso; simp at h; done) | subst h)
                            all_goals
                              refine J.skip ?_
                rotate_right 1
                focus
                  intro h
                  try (first | (exfalso; omega) | (cases h; done) | (exfalso; simp at h; done) | subst h)
                  all_goals
                    have hO : True := trivial
                    refine J.seq ?_
                    refine J.region ?_
                    refine JL.step (y_move rfl) rfl rfl rfl ?_
                    refine JL.loud rfl (l_callF e13 rfl rfl (Fc.on (Split.cons (by (repeat (first | exact Pick.head | apply Pick.tail | apply Pick.app))) (Split.cons (by (repeat (first | exact Pick.head | apply Pick.tail | apply Pick.app))) Split.nil)) (lopen_lh E st d S D L _ hL)) ?_)
                    rintro _ _ ⟨lg', rfl, rfl⟩
                    refine JL.step (y_move rfl) rfl rfl rfl (JL.step (y_extract rfl rfl) rfl rfl rfl (JL.step (y_extract rfl rfl) rfl rfl rfl (JL.step (y_assign rfl) rfl rfl rfl (JL.step (y_assign rfl) rfl rfl rfl ?_))))
                    refine JL.nil ?_
                    refine JE.then_normal ?_
                    refine J.seq ?_
                    refine J.region ?_
                    refine JL.step (y_move rfl) rfl rfl rfl (JL.step (y_neq rfl rfl) rfl rfl rfl ?_)
                    refine JL.nil ?_
                    refine JE.then_normal ?_
                    refine J.cond_f rfl (by (first | rfl | assumption | (simp; done) | (simp; omega))) ?_
                    refine J.skip ?_
        all_goals refine JE.block_normal ?_
        all_goals refine JE.then_normal ?_
        all_goals
          first
            | (have zz := hA1
               refine J.closeK hk34 (S, D', L', lg, pv, pc, na, nc, vals ++ [.slice bp k bc]) ⟨hL', hd'.trans hI.len, by dsimp only; rw [hLn1]; omega, by dsimp only; omega, by dsimp only; rw [hLe]; exact hI.snap, by dsimp only; rw [hLe]; have z := hI.tx.snoc (b := b) (by rw [hk]; exact hbin); rwa [hk] at z⟩ ⟨rfl, rfl, by dsimp only; rw [hLe]; rfl, by dsimp only; rw [hLn1]; rfl, rfl, rfl, rfl, rfl, rfl, trivial⟩ ?_
               dsimp only
               rw [hLn1]
               exact fun w q => q.sup (by (repeat (first | exact Sup.refl | apply Sup.cons (by (repeat (first | exact Pick.head | apply Pick.tail | apply Pick.app))) | apply Sup.app | apply Sup.skip | apply Sup.skips))))
            | (have zz := hA0
               refine J.closeK hk34 (S, D', L', lg, pv, pc, q, c, vals) ⟨hL', hd'.trans hI.len, by dsimp only; omega, by dsimp only; omega, hI.snap, hI.tx⟩ ⟨rfl, rfl, rfl, by dsimp only; rw [hn]; rfl, rfl, rfl, rfl, rfl, rfl, trivial⟩ ?_
               dsimp only
               rw [hn]
               exact fun w q => q.sup (by (repeat (first | exact Sup.refl | apply Sup.cons (by (repeat (first | exact Pick.head | apply Pick.tail | apply Pick.app))) | apply Sup.app | apply Sup.skip | apply Sup.skips))))
            | (have zz := hC1
               refine J.closeK hk34 (S', D', L', lg, bp, bc, none, 0, []) ⟨hL', hd'.trans hI.len, by dsimp only; rw [hLe]; exact Nat.zero_le _, by dsimp only; rw [hSe, next_turn (by omega)]; omega, by dsimp only; rw [hLe]; dsimp only; rw [hk]; exact hbin, by dsimp only; rw [hLe]; exact TxB.nil K⟩ ⟨rfl, rfl, by dsimp only; rw [hLe]; dsimp only; rw [hk]; rfl, by dsimp only; rw [hLe]; rfl, rfl, rfl, rfl, rfl, rfl, trivial⟩ ?_
               dsimp only
               rw [hLe]
               exact fun w q => q.own_nil.sup (by (repeat (first | exact Sup.refl | apply Sup.cons (by (repeat (first | exact Pick.head | apply Pick.tail | apply Pick.app))) | apply Sup.app | apply Sup.skip | apply Sup.skips))))
            | (have zz := hC0
               refine J.closeK hk34 (S', D', L', lg, pv, pc, q, c, vals) ⟨hL', hd'.trans hI.len, by dsimp only; omega, by dsimp only; omega, hI.snap, hI.tx⟩ ⟨rfl, rfl, rfl, by dsimp only; rw [hn]; rfl, rfl, rfl, rfl, rfl, rfl, trivial⟩ ?_
               dsimp only
               rw [hn]
               exact fun w q => q.sup (by (repeat (first | exact Sup.refl | apply Sup.cons (by (repeat (first | exact Pick.head | apply Pick.tail | apply Pick.app))) | apply Sup.app | apply Sup.skip | apply Sup.skips))))
            | (have zz := hO
               refine J.closeK hk34 (S, D, L, lg', pv, pc, q, c, vals) ⟨hL, hI.len, by dsimp only; omega, by dsimp only; omega, hI.snap, hI.tx⟩ ⟨rfl, rfl, rfl, by dsimp only; rw [hn]; rfl, rfl, rfl, rfl, rfl, rfl, trivial⟩ ?_
               dsimp only
               rw [hn]
               exact fun w q => q.sup (by (repeat (first | exact Sup.refl | apply Sup.cons (by (repeat (first | exact Pick.head | apply Pick.tail | apply Pick.app))) | apply Sup.app | apply Sup.skip | apply Sup.skips))))
      rintro ⟨S, D, L, lg, pv, pc, q, c, vals⟩ hI
      dsimp only at hI ⊢
      obtain ⟨n, hn⟩ : ∃ n, L.txs.length = n := ⟨_, rfl⟩
      rw [hn]
      refine J.seq ?_
      refine J.seq ?_
      refine J.region ?_
      refine JL.step (y_move rfl) rfl rfl rfl (JL.step (y_len_slice hT rfl rfl rfl) rfl rfl rfl (JL.step (y_move rfl) rfl rfl rfl ?_))
      refine JL.nil ?_
      refine JE.then_normal ?_
      refine J.block ?_
      refine J.loop (α := Nat × List Value) (fun s => s.1 ≤ k ∧ s.2.length = k + 1 ∧ ∀ j, s.1 ≤ j → s.2[j]? = (ints .u8 (b ++ [7]))[j]?) (fun s => [(6, .pointer (some ⟨st, 0, none⟩)), (7, .pointer (some ⟨lg, 0, none⟩)), (9, .slice pv L.snap.length pc), (10, .slice q n c), (13, .slice bp k bc), (14, .slice oa (k + 1) oc), (39, .slice (some ⟨go, oo, none⟩) m0 cap), (40, .int .i64 m0), (41, .int .i64 i), (134, .int .i64 k), (135, .int .i64 s.1)]) (fun s => own 5 1 (.slice oa (k + 1) oc) (k + 1) s.2 :: logm lg st L :: row st 90 (scells S d) :: disk d D :: own 36 1 (.slice q n c) n vals :: [K]) (fun s => k - s.1) (0, ints .u8 (b ++ [7])) ⟨Nat.zero_le _, hSk, fun j _ => rfl⟩ ⟨rfl, rfl, rfl, rfl, rfl, rfl, rfl, rfl, rfl, rfl, rfl, trivial⟩ (fun w h => h.sup (by (repeat (first | exact Sup.refl | apply Sup.cons (by (repeat (first | exact Pick.head | apply Pick.tail | apply Pick.app))) | apply Sup.app | apply Sup.skip | apply Sup.skips)))) ?_
      rintro ⟨j, ys⟩ ⟨hj, hys, hyj⟩
      dsimp only at hj hys hyj ⊢
      refine J.seq ?_
      refine J.region ?_
      refine JL.step (y_lss rfl rfl) rfl rfl rfl ?_
      refine JL.nil ?_
      refine JE.then_normal ?_
      refine J.seq ?_
      focus
        first | apply J.cond_dec rfl | apply J.cond rfl
        focus
          intro h
          try (first | (exfalso; omega) | (cases h; done) | (exfalso; simp at h; done) | subst h)
          all_goals
            refine J.skip ?_
        rotate_right 1
        focus
          intro h
          try (first | (exfalso; omega) | (cases h; done) | (exfalso; simp at h; done) | subst h)
          all_goals
            refine J.exit ?_
            refine JE.then_exit ?_
            refine JE.then_exit ?_
            refine JE.block_exit ?_
            refine JE.then_normal ?_
            refine J.seq ?_
            obtain rfl : j = k := by omega
            obtain ⟨ga, rfl⟩ := oS.at_.resolve_right fun ⟨h0, _⟩ => by have := oS.le; omega
            have hy7 : ys[j]? = some (.int .u8 7) := by rw [hyj j (Nat.le_refl _), ← hk]; simp [ints]
            have hoc1 := oS.le
            refine J.region ?_
            refine JL.step (y_move rfl) rfl rfl rfl (JL.step (y_move rfl) rfl rfl rfl (JL.step (y_len_slice hT rfl rfl rfl) rfl rfl rfl ?_))
            refine JL.step (y_indexAddr_slice hT rfl rfl rfl rfl rfl (by (first | omega | exact Nat.le_of_ble_eq_true rfl | decide | (simp; omega))) (by (first | omega | exact Nat.le_of_ble_eq_true rfl | decide | (simp; omega)))) rfl rfl rfl ?_
            refine JL.step (y_load1 hT rfl rfl rfl (Rd1.elem (i := j) (RdN.own (by (repeat (first | exact Pick.head | apply Pick.tail | apply Pick.app)))) hy7)) rfl rfl rfl ?_
            refine JL.step (y_neq rfl rfl) rfl rfl rfl (JL.step (y_move rfl) rfl rfl rfl ?_)
            all_goals (first | (refine JL.gsplit_dec rfl rfl rfl (fun h => ?_) (fun h => ?_) <;> try (first | (exfalso; omega) | exact absurd rfl h)) | (refine JL.gsplit rfl rfl rfl (fun h => ?_) (fun h => ?_) <;> try (first | cases h | (exfalso; simp at h; done))) | skip)
            all_goals (first | refine JL.gskip rfl rfl rfl rfl rfl rfl ?_ | refine JL.gskipU rfl rfl rfl rfl rfl ?_ | refine JL.gstep rfl rfl rfl (y_move rfl) rfl rfl ?_)
            all_goals (first | refine JL.gskip rfl rfl rfl rfl rfl rfl ?_ | refine JL.gskipU rfl rfl rfl rfl rfl ?_ | refine JL.gstep rfl rfl rfl (y_move rfl) rfl rfl ?_)
            all_goals (first | refine JL.gskip rfl rfl rfl rfl rfl rfl ?_ | refine JL.gskipU rfl rfl rfl rfl rfl ?_ | refine JL.gstep rfl rfl rfl (y_move rfl) rfl rfl ?_)
            all_goals (first | refine JL.gskip rfl rfl rfl rfl rfl rfl ?_ | refine JL.gskipU rfl rfl rfl rfl rfl ?_ | (refine JL.gloud rfl rfl rfl (l_callF e35 rfl rfl (Fc.on (Split.cons (A := logm lg st L) (by (repeat (first | exact Pick.head | apply Pick.tail | apply Pick.app))) (Split.cons (A := own 36 1 (.slice q n c) n vals) (by (repeat (first | exact Pick.head | apply Pick.tail | apply Pick.app))) (Split.cons (A := K) (by (repeat (first | exact Pick.head | apply Pick.tail | apply Pick.app))) Split.nil))) (tells_spec E lg st L _ pv q L.snap.length pc n c vals K rfl hn hI.lh.used (hI.snap.kept Pick.head) hI.tx)) ?_); rintro _ _ ⟨rfl, rfl⟩))
            all_goals (first | refine JL.gskip rfl rfl rfl rfl rfl rfl ?_ | refine JL.gskipU rfl rfl rfl rfl rfl ?_ | refine JL.gstep rfl rfl rfl (y_not rfl) rfl rfl ?_)
            all_goals (refine JL.step (y_pick rfl rfl rfl) rfl rfl rfl ?_)
            all_goals refine JL.nil ?_
            all_goals refine JE.then_normal ?_
            all_goals
              refine J.cond_f rfl (by (first | rfl | assumption | (simp; done) | (simp; omega))) ?_
              refine J.skip ?_
            all_goals
              refine JE.block_normal ?_
              refine JE.then_normal ?_
              refine J.region ?_
              refine JL.step (y_add rfl rfl (by (first | exact wrap_i64 (by omega) (by omega) | rfl))) rfl rfl rfl ?_
              refine JL.step (y_move rfl) rfl rfl rfl ?_
              refine JL.nil ?_
              refine JE.round (s := (i, S, D, L, lg, pv, pc, q, c, vals)) (i + 1, S, D, L, lg, pv, pc, q, c, vals) ?_ ?_ ?_ ?_
              · exact ⟨by dsimp only; omega, hI⟩
              · exact ⟨rfl, rfl, rfl, by dsimp only; rw [hn]; rfl, rfl, rfl, rfl, trivial⟩
              · dsimp only
                rw [hn]
                exact fun w q => q.sup (by (repeat (first | exact Sup.refl | apply Sup.cons (by (repeat (first | exact Pick.head | apply Pick.tail | apply Pick.app))) | apply Sup.app | apply Sup.skip | apply Sup.skips)))
              · dsimp only
                omega
      all_goals refine JE.then_normal ?_
      all_goals
        refine J.seq ?_
        refine J.block ?_
        refine J.seq ?_
        have hltj : j < k := by omega
        obtain ⟨bg, bo, rfl, hbro⟩ := hbin.addr (by omega)
        obtain ⟨ga, rfl⟩ := oS.at_.resolve_right fun ⟨h0, _⟩ => by have := oS.le; omega
        obtain ⟨x, hxj⟩ : ∃ x, b[j]? = some x := ⟨_, List.getElem?_eq_getElem (by omega)⟩
        have hv1 : ys[j]? = some (.int .u8 x) := by
          rw [hyj j (Nat.le_refl _)]
          rw [ints, List.map_append, List.getElem?_append_left (by rw [List.length_map]; omega)]
          simp [hxj]
        have hrd : ∀ l, InL l (some ⟨bg, bo, none⟩) k bc (ints .u8 b) → RdN l bg bo (ints .u8 b) := fun l h => by
          obtain ⟨b', o', e, hr⟩ := h.addr (by omega)
          cases e
          exact hr []
        have hv2 : (ints .u8 b)[j]? = some (.int .u8 x) := by simp [ints, hxj]
        have hoc1 := oS.le
        have hbc1 := hbin.le
        refine J.region ?_
        refine JL.step (y_move rfl) rfl rfl rfl (JL.step (y_assign rfl) rfl rfl rfl ?_)
        refine JL.nil ?_
        refine JE.then_normal ?_
        refine J.seq ?_
        refine J.seq ?_
        refine J.draw _ _ [(0, .q), (1, .q), (2, .q), (3, .q), (4, .q), (5, .q), (6, .q), (7, .q), (8, .q)] mixed (by kernel_rfl) (Split.nil) ?_
        refine JM.quiet rfl rfl rfl rfl (fun m => y_move rfl) ?_
        refine JM.quiet rfl rfl rfl rfl (fun m => y_move rfl) ?_
        refine JM.quiet rfl rfl rfl rfl (fun m => y_indexAddr_slice hT rfl rfl rfl rfl rfl (by (first | omega | exact Nat.le_of_ble_eq_true rfl | decide | (simp; omega))) (by (first | omega | exact Nat.le_of_ble_eq_true rfl | decide | (simp; omega)))) ?_
        refine JM.quiet rfl rfl rfl rfl (fun m => y_load1 hT rfl rfl rfl (Rd1.elem (i := j) (RdN.own (Pick.app m (by (repeat (first | exact Pick.head | apply Pick.tail | apply Pick.app))))) hv1)) ?_
        refine JM.quiet rfl rfl rfl rfl (fun m => y_move rfl) ?_
        refine JM.quiet rfl rfl rfl rfl (fun m => y_move rfl) ?_
        refine JM.quiet rfl rfl rfl rfl (fun m => y_indexAddr_slice hT rfl rfl rfl rfl rfl (by (first | omega | exact Nat.le_of_ble_eq_true rfl | decide | (simp; omega))) (by (first | omega | exact Nat.le_of_ble_eq_true rfl | decide | (simp; omega)))) ?_
        refine JM.quiet rfl rfl rfl rfl (fun m => y_load1 hT rfl rfl rfl (Rd1.elem (hrd _ (InL.app (InL.kept hbin (by (repeat (first | exact Pick.head | apply Pick.tail | apply Pick.app)))) m)) hv2)) ?_
        refine JM.quiet rfl rfl rfl rfl (fun m => y_neq rfl rfl) ?_
        refine JM.nil ?_
        refine JE.then_normal ?_
        refine J.cond_f rfl (by (first | rfl | assumption | (simp; done) | (simp; omega))) ?_
        refine J.skip ?_
        refine JE.then_normal ?_
        refine J.region ?_
        refine JL.step (y_move rfl) rfl rfl rfl (JL.step (y_move rfl) rfl rfl rfl ?_)
        refine JL.step (y_indexAddr_slice hT rfl rfl rfl rfl rfl (by (first | omega | exact Nat.le_of_ble_eq_true rfl | decide | (simp; omega))) (by (first | omega | exact Nat.le_of_ble_eq_true rfl | decide | (simp; omega)))) rfl rfl rfl ?_
        refine JL.loud rfl (l_storeOwn1 hT rfl rfl rfl rfl rfl (by (repeat (first | exact Pick.head | apply Pick.tail | apply Pick.app))) (show 0 + (j : Int).toNat * i5.size < ys.length by rw [hys, show i5.size = 1 from rfl]; omega) ?_)
        refine JL.nil ?_
        refine JE.block_normal ?_
        refine JE.then_normal ?_
        refine J.region ?_
        refine JL.step (y_add rfl rfl (by (first | exact wrap_i64 (by omega) (by omega) | rfl))) rfl rfl rfl ?_
        refine JL.step (y_move rfl) rfl rfl rfl ?_
        refine JL.nil ?_
      all_goals
        exact JE.round (s := (j, ys)) (j + 1, ys.set (0 + (j : Int).toNat * i5.size) (.int .u8 238)) ⟨by dsimp only; omega, by simp [hys], fun z hz => by
          dsimp only at hz ⊢
          rw [List.getElem?_set_ne (by rw [show i5.size = 1 from rfl]; omega)]
          exact hyj z (by omega)⟩ ⟨rfl, rfl, rfl, rfl, rfl, rfl, rfl, rfl, rfl, rfl, rfl, trivial⟩ (fun w q => q.sup (by (repeat (first | exact Sup.refl | apply Sup.cons (by (repeat (first | exact Pick.head | apply Pick.tail | apply Pick.app))) | apply Sup.app | apply Sup.skip | apply Sup.skips)))) (by dsimp only; omega)
end
section
open Go.ChangeShapes Go.WideShapes Go.ChangeAt Go.RowKit
theorem wal_does_reads : ∀ t ∈ Try.f8.params.toList, Try.prog.readableRec t = true ∧ t < Try.prog.types.size := by
  rw [Try.params8]
  intro t ht
  simp only [List.mem_cons, List.not_mem_nil, or_false] at ht
  rcases ht with rfl | rfl
  all_goals exact ⟨by kernel_rfl, of_decide_eq_true (by kernel_rfl)⟩
set_option maxRecDepth 100000 in
theorem wal_does_contract (H : Type) (enc : TypeId × Value → H) (W : World) (base : Nat) (args : Array Value) (ds gs : List (DataW H)) (before : List MemPlace)
    (hval : ∀ (j : Nat) t v, Try.f8.params[j]? = some t → args[j]? = some v → Value.okWide Try.prog W .any base t v)
    (hW : DataW.Whole enc Try.prog Try.f8.params.toList Rows.walDoesSpec.vars false W args.toList ds gs before) :
    Calls Try.prog 8 args W fun e W' => ∃ v, e = .returned v ∧ Rows.walDoesSpec.post enc Try.prog Try.f8 false true false false W args v W' := by
  have hW' := hW
  obtain ⟨p, q, hA0, hV, rfl, hfz, hnd⟩ := hW
  have hA : DataW.TrodAll enc Try.prog W 0 (fun _ => true) true Try.f8.params.toList args.toList ds p := hA0
  rw [Try.params8] at hA hval
  obtain ⟨v0, vs0, d0, ds0, p0, q0, hargs, rfl, rfl, h0, r0⟩ := trodAll_cons hA
  obtain ⟨v1, vs1, d1, ds1, p1, q1, rfl, rfl, rfl, h1, r1⟩ := trodAll_cons r0
  obtain ⟨rfl, rfl, rfl⟩ := trodAll_nil r1
  obtain rfl : args = #[v0, v1] := by cases args; simp_all
  obtain ⟨rfl, rfl⟩ := trodVars_none hV
  clear hA0
  have t0 : Tr enc prog (fun _ => True) W 3 [v0] := Tr.ofInt u3 (hval 0 3 v0 rfl rfl) h0 trivial
  have t1 : Tr enc prog (fun _ => True) W 58 [v1] := Tr.ofSlice u58 (hval 1 58 v1 rfl rfl) h1 trivial
  obtain ⟨n, e0, hn⟩ := Tr.int u3 t0
  cases e0
  obtain ⟨p, c, xs, rfl, hx, hin⟩ := tr_ops12 Her.all t1
  refine ((wal_does W n p c xs (old W) (hin.inl []) hx) W (Sat.start W)).mono fun e W' hq => ?_
  obtain ⟨v, l', rfl, hs, rfl, rfl⟩ := hq
  exact ⟨_, rfl, law_post laidOut_ rfl rfl u4 wal_does_reads hW' rfl rfl rfl hs.below⟩
set_option maxRecDepth 100000 in
theorem wal_does_lifted (os : Os) (started : os.Started) (H : Type) (enc : TypeId × Value → H) :
    ReturnsInHanded {} Try.checked os 8 .any (Rows.walDoesSpec.pre6 enc Try.prog Try.f8 Rows.walDoesRow.domain false) (Rows.walDoesSpec.post enc Try.prog Try.f8 false true false false) := by
  refine returnsInHanded_of_change (C := Try.checked) own_ started (by kernel_rfl) Try.func8
    (ChangeSpec.witness6 (enc := enc) (C := Try.checked) false ⟨#[], #[.int .i64 0, .slice none 0 0], []⟩ 8 (by kernel_rfl) (by kernel_rfl) (by kernel_rfl) (by kernel_rfl)) ?_
  intro W base args ds gs before hval hW _ _
  exact wal_does_contract H enc W base args ds gs before hval hW
theorem wal_does_holds : Rows.WalDoesSaid :=
  OpenClaim.holds_of_wide 8 Try.f8 rfl rfl rfl rfl rfl rfl rfl ⟨rfl, rfl, rfl, rfl, rfl⟩ rfl rfl rfl rfl rfl (by kernel_rfl) Try.func8 (by kernel_rfl)
    (of_decide_eq_true (by kernel_rfl)) (by unfold Func.isWrapper; first | (rw [if_pos (by decide +kernel)]; kernel_rfl) | (rw [if_neg (by decide +kernel)]; exact ⟨rfl, rfl⟩))
    (fun os started H enc _ => wal_does_lifted os started H enc)
end
end Go.Proofs.Ytmgagkpokmaefaa
