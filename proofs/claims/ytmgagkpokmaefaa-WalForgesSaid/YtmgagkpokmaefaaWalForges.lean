
/-
  hollowtreelaw12.WalForges returns true for every input, and leaves its input as it was. No condition.
-/
import Derived.Test.YtmgagkpokmaefaaJoin3
import Derived.Test.YtmgagkpokmaefaaJoin8
namespace Go.Proofs.Ytmgagkpokmaefaa
open Go Go.SL
section
attribute [local irreducible] J JL JE JM LS Y Fc RV Code.wp wpList Code.wpIn wpListIn
attribute [local irreducible] Yc
variable (E : World)
theorem wal_forges (p1 p2 : Option Addr) (c1 c2 : Nat) (xs ys : List Int) (at_ : Int) (r : List HProp) (hx : Bytes xs) (hy : Bytes ys) (hin1 : InL r p1 xs.length c1 (ints .u8 xs)) (hin2 : InL r p2 ys.length c2 (ints .u8 ys)) :
    Fc prog E 7 [.slice p1 xs.length c1, .slice p2 ys.length c2, .int .i64 at_].toArray r (fun v l' => v = .bool true ∧ l' = r) := by
  refine Fc.eqs ?_
  obtain ⟨hL0, hl0⟩ := lh_format (n := storeN 0) (storeN_le 0).1 (by have := (storeN_le 0).2; omega)
  obtain ⟨D0, hD0⟩ : ∃ D0, (Dk.new (storeN 0)).formatted = D0 := ⟨_, rfl⟩
  rw [hD0] at hL0 hl0
  have hl64 : D0.safe.length = 64 := hl0
  have hD : ∀ {D : Dk}, D.safe.length = 64 → D.half = 15 ∧ D.slots = 32 := fun {D} h => by
    have h1 : D.half = 15 := by unfold Dk.half; rw [h]
    exact ⟨h1, by unfold Dk.slots; rw [h, h1]⟩
  have hD00 := hD hl64
  obtain ⟨ld, hld, hld1⟩ := range_n at_ 64 (by decide)
  have hld : (max at_ 0).tmod 64 = (ld : Int) := hld
  have cutl : ∀ (p : Option Addr) (c : Nat) (zs : List Int), Bytes zs → InL r p zs.length c (ints .u8 zs) → ∃ k tx, min zs.length 600 = k ∧ tx.length = k ∧ Small tx ∧ InL r p k c (ints .u8 tx) ∧ k ≤ 600 ∧ k ≤ zs.length := fun p c zs hz hin => by
    obtain ⟨k, hk⟩ : ∃ k, min zs.length 600 = k := ⟨_, rfl⟩
    refine ⟨k, zs.take k, hk, by rw [List.length_take]; omega, ⟨hz.take k, by rw [List.length_take]; omega⟩, ?_, by omega, by omega⟩
    have q := hin.cutTo k k (by omega)
    rwa [show (ints .u8 zs).take k = ints .u8 (zs.take k) by simp [ints, List.map_take]] at q
  obtain ⟨k1, tx, hk1, hl1, hs1, hi1, hk16, hk1x⟩ := cutl p1 c1 xs hx hin1
  obtain ⟨k2, ot, hk2, hl2, hs2, hi2, hk26, hk2y⟩ := cutl p2 c2 ys hy hin2
  have hn1 : needN k1 ≤ 11 := by unfold needN; omega
  have hn2 : needN k2 ≤ 11 := by unfold needN; omega
  obtain ⟨D1, eA1, hL1, hd1⟩ := hL0.append hs1 (by show 0 + needN tx.length ≤ _; rw [hD00.2, hl1]; omega)
  obtain ⟨L1, hLe1⟩ : ∃ L1 : Lg, { lg0 with txs := lg0.txs ++ [tx], used := lg0.used + needN tx.length } = L1 := ⟨_, rfl⟩
  have hu1 : L1.used = needN k1 := by rw [← hLe1, ← hl1]; show 0 + needN tx.length = _; omega
  have ht1 : L1.txs.length = 1 := by rw [← hLe1]; rfl
  rw [hLe1] at eA1 hL1
  have hd1 : D1.safe.length = 64 := hd1.trans hl64
  obtain ⟨D2, eA2, hL2, hd2⟩ := hL1.append hs2 (by rw [(hD hd1).2, hl2, hu1]; omega)
  obtain ⟨L2, hLe2⟩ : ∃ L2 : Lg, { L1 with txs := L1.txs ++ [ot], used := L1.used + needN ot.length } = L2 := ⟨_, rfl⟩
  have hu2 : L2.used = needN k1 + needN k2 := by rw [← hLe2, ← hl2, ← hu1]
  rw [hLe2] at eA2 hL2
  have hd2 : D2.safe.length = 64 := hd2.trans hd1
  obtain ⟨U, hU⟩ : ∃ U, L2.used = U := ⟨_, rfl⟩
  have hU22 : U ≤ 22 := by omega
  have hsl2 := (hD hd2).2
  have h22 := hL2.holds.fits.two
  have hok2 := hL2.holds.up.ok
  have cused : ∀ lg st l, Fc prog E 23 [.pointer (some ⟨lg, 0, none⟩)].toArray (logm lg st L2 :: l) (fun v l' => v = .int .i64 (U : Int) ∧ l' = logm lg st L2 :: l) := fun lg st l => by rw [← hU]; exact lused_spec E lg st L2 l
  obtain ⟨Z, hZ⟩ : ∃ Z, List.replicate ld (0 : Int) = Z := ⟨_, rfl⟩
  have hZl : Z.length = ld := by rw [← hZ, List.length_replicate]
  obtain ⟨F, hF⟩ : ∃ F, Z ++ slotBytes D2 U = F := ⟨_, rfl⟩
  obtain ⟨M, hM⟩ : ∃ M, ld + 64 * U = M := ⟨_, rfl⟩
  have hFl : F.length = M := by rw [← hF, List.length_append, hZl, slotBytes_length hok2 h22 U (by omega)]; exact hM
  have hFs : Small F := ⟨by rw [← hF, ← hZ]; exact (Bytes.rep _).append (slotBytes_bytes hL2.byt U (by omega)), by omega⟩
  have croom : ∀ lg st d l, Fc prog E 16 [.pointer (some ⟨lg, 0, none⟩), .int .i64 (M : Int)].toArray (logm lg st lg0 :: row st 90 (scells sb0 d) :: disk d D0 :: l) (fun v l' => v = .bool (decide (needN M ≤ 32)) ∧ l' = logm lg st lg0 :: row st 90 (scells sb0 d) :: disk d D0 :: l) := fun lg st d l => by
    have q := lroom_spec E lg st d lg0 sb0 D0 l sb0_hash (by omega) (M : Int) (by omega)
    rwa [show roomB lg0 D0 (M : Int) = decide (needN M ≤ 32) from by rw [Bool.eq_iff_iff, roomB_iff hL0, decide_eq_true_iff, hD00.2]; show 0 + needN M ≤ 32 ↔ _; omega] at q
  refine Fc.of_body (c := ?codeC) Try.func7 ?hb Try.ntmps7 ?hl ?_
  case hb => exact rfl
  case hl => exact rfl
  refine J.seq ?_
  refine J.region ?_
  refine JL.step (y_assign rfl) rfl rfl rfl ?_
  refine JL.nil ?_
  refine JE.then_normal ?_
  refine J.seq ?_
  refine J.seq ?_
  refine J.region ?_
  refine JL.loud rfl (l_callF e11 rfl rfl (wakes12_spec E _) ?_)
  rintro _ l1 ⟨rfl, e1⟩
  obtain rfl := e1.symm
  refine JL.step (y_not rfl) rfl rfl rfl ?_
  refine JL.nil ?_
  refine JE.then_normal ?_
  refine J.cond_f rfl (by (first | rfl | assumption | (simp; done) | (simp; omega))) ?_
  refine J.skip ?_
  refine JE.then_normal ?_
  refine J.seq ?_
  refine J.region ?_
  refine JL.loud rfl (l_callF e12 rfl rfl (store_spec E 0 _) ?_)
  rintro _ _ ⟨d, st, rfl, rfl⟩
  rw [hD0]
  refine JL.step (y_move rfl) rfl rfl rfl (JL.step (y_extract rfl rfl) rfl rfl rfl (JL.step (y_extract rfl rfl) rfl rfl rfl (JL.step (y_assign rfl) rfl rfl rfl (JL.step (y_assign rfl) rfl rfl rfl ?_))))
  refine JL.nil ?_
  refine JE.then_normal ?_
  refine J.seq ?_
  refine J.region ?_
  refine JL.step (y_move rfl) rfl rfl rfl ?_
  refine JL.loud rfl (l_callF e13 rfl rfl (Fc.on (Split.cons (by (repeat (first | exact Pick.head | apply Pick.tail | apply Pick.app))) (Split.cons (by (repeat (first | exact Pick.head | apply Pick.tail | apply Pick.app))) Split.nil)) (lopen_lh E st d sb0 D0 lg0 _ hL0)) ?_)
  rintro _ _ ⟨lg, rfl, rfl⟩
  refine JL.step (y_move rfl) rfl rfl rfl (JL.step (y_extract rfl rfl) rfl rfl rfl (JL.step (y_extract rfl rfl) rfl rfl rfl (JL.step (y_assign rfl) rfl rfl rfl (JL.step (y_assign rfl) rfl rfl rfl ?_))))
  refine JL.nil ?_
  refine JE.then_normal ?_
  refine J.seq ?_
  refine J.seq ?_
  refine J.region ?_
  refine JL.step (y_move rfl) rfl rfl rfl (JL.step (y_ptr_eq_nil hT rfl rfl rfl rfl) rfl rfl rfl (JL.step (y_move rfl) rfl rfl rfl ?_))
  all_goals (first | (refine JL.gsplit_dec rfl rfl rfl (fun h => ?_) (fun h => ?_) <;> try (first | (exfalso; omega) | exact absurd rfl h)) | (refine JL.gsplit rfl rfl rfl (fun h => ?_) (fun h => ?_) <;> try (first | cases h | (exfalso; simp at h; done))) | skip)
  all_goals (first | refine JL.gskip rfl rfl rfl rfl rfl rfl ?_ | refine JL.gskipU rfl rfl rfl rfl rfl ?_ | refine JL.gstep rfl rfl rfl (y_move rfl) rfl rfl ?_)
  all_goals (first | refine JL.gskip rfl rfl rfl rfl rfl rfl ?_ | refine JL.gskipU rfl rfl rfl rfl rfl ?_ | refine JL.gstep rfl rfl rfl (y_neq rfl rfl) rfl rfl ?_)
  all_goals (refine JL.step (y_pick rfl rfl rfl) rfl rfl rfl ?_)
  all_goals refine JL.nil ?_
  all_goals refine JE.then_normal ?_
  all_goals
    refine J.cond_f rfl (by (first | rfl | assumption | (simp; done) | (simp; omega))) ?_
    refine J.skip ?_
  all_goals refine JE.then_normal ?_
  all_goals
    refine J.seq ?_
    refine J.draw _ _ [(0, .q), (1, .q), (2, .q), (3, .q), (4, .q), (5, .q), (6, .q), (7, .q), (8, .q), (9, .q), (10, .q), (11, .q)] mixed (by kernel_rfl) (Split.nil) ?_
    refine JM.quiet rfl rfl rfl rfl (fun m => y_move rfl) ?_
    refine JM.quiet rfl rfl rfl rfl (fun m => y_move rfl) ?_
    refine JM.quiet rfl rfl rfl rfl (fun m => y_len_slice hT rfl rfl rfl) ?_
    refine JM.quiet rfl rfl rfl rfl (fun m => y_min2 (m := (k1 : Int)) rfl rfl (by omega)) ?_
    refine JM.quiet rfl rfl rfl rfl (fun m => y_cutTo hT rfl rfl rfl rfl rfl rfl hk1x hin1) ?_
    refine JM.quiet rfl rfl rfl rfl (fun m => y_move rfl) ?_
    refine JM.quiet rfl rfl rfl rfl (fun m => y_move rfl) ?_
    refine JM.quiet rfl rfl rfl rfl (fun m => y_len_slice hT rfl rfl rfl) ?_
    refine JM.quiet rfl rfl rfl rfl (fun m => y_min2 (m := (k2 : Int)) rfl rfl (by omega)) ?_
    refine JM.quiet rfl rfl rfl rfl (fun m => y_cutTo hT rfl rfl rfl rfl rfl rfl hk2y hin2) ?_
    refine JM.quiet rfl rfl rfl rfl (fun m => y_assign rfl) ?_
    refine JM.quiet rfl rfl rfl rfl (fun m => y_assign rfl) ?_
    refine JM.nil ?_
    refine JE.then_normal ?_
    refine J.seq ?_
    refine J.seq ?_
    refine J.region ?_
    refine JL.step (y_move rfl) rfl rfl rfl (JL.step (y_move rfl) rfl rfl rfl ?_)
    refine JL.loud rfl (l_callF e19 rfl rfl (Fc.on (Split.cons (by (repeat (first | exact Pick.head | apply Pick.tail | apply Pick.app))) (Split.cons (by (repeat (first | exact Pick.head | apply Pick.tail | apply Pick.app))) (Split.cons (by (repeat (first | exact Pick.head | apply Pick.tail | apply Pick.app))) Split.nil))) (append_lh E lg st d _ hL0 tx p1 c1 k1 hl1 hs1 (by decide) eA1 (by (repeat (first | assumption | apply InL.cons | apply InL.app))))) ?_)
    rintro _ _ ⟨rfl, rfl⟩
    refine JL.step (y_neq rfl rfl) rfl rfl rfl (JL.step (y_move rfl) rfl rfl rfl ?_)
    all_goals (first | (refine JL.gsplit_dec rfl rfl rfl (fun h => ?_) (fun h => ?_) <;> try (first | (exfalso; omega) | exact absurd rfl h)) | (refine JL.gsplit rfl rfl rfl (fun h => ?_) (fun h => ?_) <;> try (first | cases h | (exfalso; simp at h; done))) | skip)
    all_goals (first | refine JL.gskip rfl rfl rfl rfl rfl rfl ?_ | refine JL.gskipU rfl rfl rfl rfl rfl ?_ | refine JL.gstep rfl rfl rfl (y_move rfl) rfl rfl ?_)
    all_goals (first | refine JL.gskip rfl rfl rfl rfl rfl rfl ?_ | refine JL.gskipU rfl rfl rfl rfl rfl ?_ | refine JL.gstep rfl rfl rfl (y_move rfl) rfl rfl ?_)
    all_goals (first | refine JL.gskip rfl rfl rfl rfl rfl rfl ?_ | refine JL.gskipU rfl rfl rfl rfl rfl ?_ | (refine JL.gloud rfl rfl rfl (l_callF e19 rfl rfl (Fc.on (Split.cons (by (repeat (first | exact Pick.head | apply Pick.tail | apply Pick.app))) (Split.cons (by (repeat (first | exact Pick.head | apply Pick.tail | apply Pick.app))) (Split.cons (by (repeat (first | exact Pick.head | apply Pick.tail | apply Pick.app))) Split.nil))) (append_lh E lg st d _ hL1 ot p2 c2 k2 hl2 hs2 (by omega) eA2 (by (repeat (first | assumption | apply InL.cons | apply InL.app))))) ?_); rintro _ _ ⟨rfl, rfl⟩))
    all_goals (first | refine JL.gskip rfl rfl rfl rfl rfl rfl ?_ | refine JL.gskipU rfl rfl rfl rfl rfl ?_ | refine JL.gstep rfl rfl rfl (y_neq rfl rfl) rfl rfl ?_)
    all_goals (refine JL.step (y_pick rfl rfl rfl) rfl rfl rfl ?_)
    all_goals refine JL.nil ?_
    all_goals refine JE.then_normal ?_
    all_goals
      refine J.cond_f rfl (by (first | rfl | assumption | (simp; done) | (simp; omega))) ?_
      refine J.skip ?_
    all_goals refine JE.then_normal ?_
    all_goals
      refine J.seq ?_
      refine J.region ?_
      refine JL.step (y_assign rfl) rfl rfl rfl ?_
      refine JL.nil ?_
      refine JE.then_normal ?_
      refine J.seq ?_
      refine J.seq ?_
      refine J.region ?_
      refine JL.step (y_move rfl) rfl rfl rfl ?_
      refine JL.loud rfl (l_callF e23 rfl rfl (Fc.on (Split.cons (by (repeat (first | exact Pick.head | apply Pick.tail | apply Pick.app))) Split.nil) (cused lg st _)) ?_)
      rintro _ _ ⟨rfl, rfl⟩
      refine JL.step (y_move rfl) rfl rfl rfl ?_
      refine JL.nil ?_
      refine JE.then_normal ?_
      refine J.block ?_
      refine J.loop (α := Nat × Option Addr × Nat) (fun s => s.1 ≤ U) (fun s => [(2, .int .i64 at_), (8, .pointer (some ⟨st, 0, none⟩)), (11, .slice s.2.1 (64 * s.1) s.2.2), (56, .int .i64 U), (57, .int .i64 s.1)]) (fun s => own 5 1 (.slice s.2.1 (64 * s.1) s.2.2) (64 * s.1) (ints .u8 (slotBytes D2 s.1)) :: row st 90 (scells sb0 d) :: disk d D2 :: r) (fun s => U - s.1) (0, none, 0) (Nat.zero_le _) ⟨rfl, rfl, rfl, rfl, rfl, trivial⟩ (fun w h => h.own_nil.sup (by (repeat (first | exact Sup.refl | apply Sup.cons (by (repeat (first | exact Pick.head | apply Pick.tail | apply Pick.app))) | apply Sup.app | apply Sup.skip | apply Sup.skips)))) ?_
      rintro ⟨j, a, c⟩ hj
      dsimp only at hj ⊢
      refine J.seq ?_
      refine J.region ?_
      refine JL.step (y_lss rfl rfl) rfl rfl rfl ?_
      refine JL.nil ?_
      refine JE.then_normal ?_
      refine J.seq ?_
      first | apply J.cond_dec rfl | apply J.cond rfl
      case' ht =>
        intro h
        try (first | (exfalso; omega) | (cases h; done) | (exfalso; simp at h; done) | subst h)
        all_goals
          refine J.skip ?_
      case' hf =>
        intro h
        try (first | (exfalso; omega) | (cases h; done) | (exfalso; simp at h; done) | subst h)
        all_goals
          refine J.exit ?_
          refine JE.then_exit ?_
          refine JE.then_exit ?_
          refine JE.block_exit ?_
          refine JE.then_normal ?_
          refine J.seq ?_
          obtain rfl : j = U := by omega
          have hSl := slotBytes_length hok2 h22 j (by omega)
          refine J.region ?_
          refine JL.step (y_move rfl) rfl rfl rfl ?_
          refine JL.step (y_max2 rfl rfl rfl) rfl rfl rfl ?_
          refine JL.step (y_rem rfl rfl (by decide) hld) rfl rfl rfl ?_
          refine JL.step (y_assign rfl) rfl rfl rfl ?_
          refine JL.nil ?_
          refine JE.then_normal ?_
          refine J.seq ?_
          refine J.region ?_
          refine JL.step (y_move rfl) rfl rfl rfl ?_
          refine JL.loud rfl (l_makeSlice hT rfl rfl rfl rfl rfl rfl (by (first | omega | exact Nat.le_of_ble_eq_true rfl | decide | (simp; omega))) (by (first | omega | exact Nat.le_of_ble_eq_true rfl | decide | (simp; omega))) (mk_fits rfl (by (first | omega | exact Nat.le_of_ble_eq_true rfl | decide | (simp; omega))) (by (first | omega | exact Nat.le_of_ble_eq_true rfl | decide | (simp; omega)))) (by (first | omega | exact Nat.le_of_ble_eq_true rfl | decide | (simp; omega))) rfl (fun bz => ?_))
          have hmk : (madeCells (Value.int .u8 0).cells ((ld : Int).toNat * i5.size)).toList = ints .u8 Z := by
            rw [show (Value.int .u8 0).cells = (List.replicate 1 (Value.int .u8 0)).toArray from rfl, madeCells_rep _ (by omega), ← hZ, ints, List.map_replicate, Int.toNat_natCast]
            show List.replicate (ld * 1) _ = _
            rw [Nat.mul_one]
          rw [hmk]
          refine JL.pre (fun w q => q.ownAll (m := ld) (size := 1) (by unfold maxLen; omega) (by simp [ints, hZl])) ?_
          refine JL.fact (p := OwnAt a (64 * j) c (ints .u8 (slotBytes D2 j))) (fun w q => Sat.own_at (q.pick (by (repeat (first | exact Pick.head | apply Pick.tail | apply Pick.app))))) fun oS => ?_
          refine JL.step (y_move rfl) rfl rfl rfl ?_
          refine JL.loud rfl (l_appendIn (nn := ld) (m := 64 * j) hT rfl rfl rfl rfl rfl rfl rfl rfl (by (repeat (first | exact Pick.head | apply Pick.tail | apply Pick.app))) (oS.inl (by (repeat (first | exact Pick.head | apply Pick.tail | apply Pick.app)))) (by rw [show i5.size = 1 from rfl]; simp [ints, hSl]) (ints_one _ _) (by rw [show i5.bytes = 1 from rfl]; omega) (by omega) rfl (fun fa fc hfc => ?_))
          rw [show ints .u8 Z ++ ints .u8 (slotBytes D2 j) = ints .u8 F by rw [← hF]; simp [ints], hM]
          refine JL.step (y_assign rfl) rfl rfl rfl ?_
          refine JL.nil ?_
          refine JE.then_normal ?_
          refine J.seq ?_
          refine J.region ?_
          refine JL.loud rfl (l_callF e12 rfl rfl (store_spec E 0 _) ?_)
          rintro _ _ ⟨d2, st2, rfl, rfl⟩
          rw [hD0]
          refine JL.step (y_move rfl) rfl rfl rfl (JL.step (y_extract rfl rfl) rfl rfl rfl (JL.step (y_extract rfl rfl) rfl rfl rfl (JL.step (y_assign rfl) rfl rfl rfl (JL.step (y_assign rfl) rfl rfl rfl ?_))))
          refine JL.nil ?_
          refine JE.then_normal ?_
          refine J.seq ?_
          refine J.region ?_
          refine JL.step (y_move rfl) rfl rfl rfl ?_
          refine JL.loud rfl (l_callF e13 rfl rfl (Fc.on (Split.cons (by (repeat (first | exact Pick.head | apply Pick.tail | apply Pick.app))) (Split.cons (by (repeat (first | exact Pick.head | apply Pick.tail | apply Pick.app))) Split.nil)) (lopen_lh E st2 d2 sb0 D0 lg0 _ hL0)) ?_)
          rintro _ _ ⟨lg2, rfl, rfl⟩
          refine JL.step (y_move rfl) rfl rfl rfl (JL.step (y_extract rfl rfl) rfl rfl rfl (JL.step (y_extract rfl rfl) rfl rfl rfl (JL.step (y_assign rfl) rfl rfl rfl (JL.step (y_assign rfl) rfl rfl rfl ?_))))
          refine JL.nil ?_
          refine JE.then_normal ?_
          refine J.seq ?_
          refine J.seq ?_
          refine J.region ?_
          refine JL.step (y_move rfl) rfl rfl rfl (JL.step (y_ptr_eq_nil hT rfl rfl rfl rfl) rfl rfl rfl (JL.step (y_move rfl) rfl rfl rfl ?_))
          all_goals (first | (refine JL.gsplit_dec rfl rfl rfl (fun h => ?_) (fun h => ?_) <;> try (first | (exfalso; omega) | exact absurd rfl h)) | (refine JL.gsplit rfl rfl rfl (fun h => ?_) (fun h => ?_) <;> try (first | cases h | (exfalso; simp at h; done))) | skip)
          all_goals (first | refine JL.gskip rfl rfl rfl rfl rfl rfl ?_ | refine JL.gskipU rfl rfl rfl rfl rfl ?_ | refine JL.gstep rfl rfl rfl (y_move rfl) rfl rfl ?_)
          all_goals (first | refine JL.gskip rfl rfl rfl rfl rfl rfl ?_ | refine JL.gskipU rfl rfl rfl rfl rfl ?_ | refine JL.gstep rfl rfl rfl (y_neq rfl rfl) rfl rfl ?_)
          all_goals (refine JL.step (y_pick rfl rfl rfl) rfl rfl rfl ?_)
          all_goals refine JL.nil ?_
          all_goals refine JE.then_normal ?_
          all_goals
            refine J.cond_f rfl (by (first | rfl | assumption | (simp; done) | (simp; omega))) ?_
            refine J.skip ?_
          all_goals refine JE.then_normal ?_
          all_goals
            refine J.seq ?_
            refine J.seq ?_
            refine J.region ?_
            refine JL.step (y_move rfl) rfl rfl rfl (JL.step (y_move rfl) rfl rfl rfl (JL.step (y_len_slice hT rfl rfl rfl) rfl rfl rfl ?_))
            refine JL.loud rfl (l_callF e16 rfl rfl (Fc.on (Split.cons (by (repeat (first | exact Pick.head | apply Pick.tail | apply Pick.app))) (Split.cons (by (repeat (first | exact Pick.head | apply Pick.tail | apply Pick.app))) (Split.cons (by (repeat (first | exact Pick.head | apply Pick.tail | apply Pick.app))) Split.nil))) (croom lg2 st2 d2 _)) ?_)
            rintro _ _ ⟨rfl, rfl⟩
            refine JL.step (y_not rfl) rfl rfl rfl ?_
            refine JL.nil ?_
            refine JE.then_normal ?_
            first | apply J.cond_dec rfl | apply J.cond rfl
            case' ht =>
              intro h
              try (first | (exfalso; omega) | (cases h; done) | (exfalso; simp at h; done) | subst h)
              all_goals
                refine J.seq ?_
                refine J.region ?_
                refine JL.step (y_assign rfl) rfl rfl rfl ?_
                refine JL.nil ?_
                refine JE.then_normal ?_
                refine J.ret ?_
                refine JE.then_ret ?_
                refine JE.ret1 (.inl rfl) rfl rfl (by (first | exact RV.tmp rfl | exact RV.cell1 hT rfl rfl rfl (by (exact Rd1.row (by (repeat (first | exact Pick.head | apply Pick.tail | apply Pick.app))) (by rfl))) | exact RV.cellN hT rfl rfl rfl (by (first | exact RdN.rowAll (by (repeat (first | exact Pick.head | apply Pick.tail | apply Pick.app))) | exact RdN.own (by (repeat (first | exact Pick.head | apply Pick.tail | apply Pick.app))))) (by (first | rfl | assumption | (simp; done) | omega)))) ?_
                exact ⟨rfl, fun w q => q.sup (by (repeat (first | exact Sup.refl | apply Sup.cons (by (repeat (first | exact Pick.head | apply Pick.tail | apply Pick.app))) | apply Sup.app | apply Sup.skip | apply Sup.skips)))⟩
            case' hf =>
              intro h
              try (first | (exfalso; omega) | (cases h; done) | (exfalso; simp at h; done) | subst h)
              all_goals
                have hfit : needN M ≤ 32 := by simpa using h
                obtain ⟨X, e, hWr, hXp, hXB, hcut⟩ := append_cut (k := needN M) hL0 hFs (by omega) (by rw [hFl, hD00.2]; show 0 + needN M ≤ 32; omega)
                rw [hFl] at hcut
                obtain ⟨rfl, hXd, _, hck⟩ := hcut.resolve_right (fun h => by have := h.2.2.1; omega)
                have hLc : LH sb0 (X.crash []) lg0 := (hck []).resolve_right (fun h => by have := h.1; omega)
                have hXl : (X.crash []).safe.length = 64 := by
                  have := writeL_len lg0 sb0 (D0.arm (needN M : Int)) F
                  rw [hWr] at this
                  exact (crash_len X []).trans (this.trans hl64)
                have eR : appL lg0 sb0 (D0.arm (needN M : Int)) F = ({ lg0 with broken := true }, X, 7) := by
                  rw [appL_arm hL0 (needN M) hFs (by rw [hFl, hD00.2]; show 0 + needN M ≤ 32; omega), hWr]
                  rfl
                obtain ⟨D4, eA4, hL4, hl4⟩ := hLc.append small_nil (by rw [(hD hXl).2]; show 0 + 1 ≤ 32; decide)
                have hl4 : D4.safe.length = 64 := hl4.trans hXl
                refine J.skip ?_
            all_goals refine JE.then_normal ?_
            all_goals
              refine J.seq ?_
              refine J.seq ?_
              refine J.region ?_
              refine JL.step (y_move rfl) rfl rfl rfl (JL.step (y_move rfl) rfl rfl rfl (JL.step (y_len_slice hT rfl rfl rfl) rfl rfl rfl ?_))
              refine JL.loud rfl (l_callF e14 rfl rfl (need_spec E M (by omega) _) ?_)
              rintro _ _ ⟨rfl, rfl⟩
              refine JL.loud rfl (l_callF e28 rfl rfl (Fc.on (Split.cons (by (repeat (first | exact Pick.head | apply Pick.tail | apply Pick.app))) Split.nil) (arm_lh E d2 _ hL0 (needN M) (by omega))) ?_)
              rintro _ _ ⟨rfl, rfl⟩
              refine JL.step (y_neq rfl rfl) rfl rfl rfl (JL.step (y_move rfl) rfl rfl rfl ?_)
              all_goals (first | (refine JL.gsplit_dec rfl rfl rfl (fun h => ?_) (fun h => ?_) <;> try (first | (exfalso; omega) | exact absurd rfl h)) | (refine JL.gsplit rfl rfl rfl (fun h => ?_) (fun h => ?_) <;> try (first | cases h | (exfalso; simp at h; done))) | skip)
              all_goals (first | refine JL.gskip rfl rfl rfl rfl rfl rfl ?_ | refine JL.gskipU rfl rfl rfl rfl rfl ?_ | refine JL.gstep rfl rfl rfl (y_move rfl) rfl rfl ?_)
              all_goals (first | refine JL.gskip rfl rfl rfl rfl rfl rfl ?_ | refine JL.gskipU rfl rfl rfl rfl rfl ?_ | refine JL.gstep rfl rfl rfl (y_move rfl) rfl rfl ?_)
              all_goals (first | refine JL.gskip rfl rfl rfl rfl rfl rfl ?_ | refine JL.gskipU rfl rfl rfl rfl rfl ?_ | (refine JL.gloud rfl rfl rfl (l_callF e19 rfl rfl (Fc.fact (p := OwnAt fa M fc (ints .u8 F)) (fun w s => Sat.own_at (s.pick (by (repeat (first | exact Pick.head | apply Pick.tail | apply Pick.app))))) fun oF => Fc.on (Split.cons (by (repeat (first | exact Pick.head | apply Pick.tail | apply Pick.app))) (Split.cons (by (repeat (first | exact Pick.head | apply Pick.tail | apply Pick.app))) (Split.cons (by (repeat (first | exact Pick.head | apply Pick.tail | apply Pick.app))) Split.nil))) (append_arm E lg2 st2 d2 _ hL0 (needN M) F fa fc M hFl hFs (by decide) eR (oF.inl (by (repeat (first | exact Pick.head | apply Pick.tail | apply Pick.app)))))) ?_); rintro _ _ ⟨rfl, rfl⟩))
              all_goals (first | refine JL.gskip rfl rfl rfl rfl rfl rfl ?_ | refine JL.gskipU rfl rfl rfl rfl rfl ?_ | refine JL.gstep rfl rfl rfl (y_neq rfl rfl) rfl rfl ?_)
              all_goals (refine JL.step (y_pick rfl rfl rfl) rfl rfl rfl ?_)
              all_goals (refine JL.step (y_move rfl) rfl rfl rfl ?_)
              all_goals (first | (refine JL.gsplit_dec rfl rfl rfl (fun h => ?_) (fun h => ?_) <;> try (first | (exfalso; omega) | exact absurd rfl h)) | (refine JL.gsplit rfl rfl rfl (fun h => ?_) (fun h => ?_) <;> try (first | cases h | (exfalso; simp at h; done))) | skip)
              all_goals (first | refine JL.gskip rfl rfl rfl rfl rfl rfl ?_ | refine JL.gskipU rfl rfl rfl rfl rfl ?_ | refine JL.gstep rfl rfl rfl (y_move rfl) rfl rfl ?_)
              all_goals (first | refine JL.gskip rfl rfl rfl rfl rfl rfl ?_ | refine JL.gskipU rfl rfl rfl rfl rfl ?_ | (refine JL.gloud rfl rfl rfl (l_callF e29 rfl rfl (Fc.on (Split.cons (by (repeat (first | exact Pick.head | apply Pick.tail | apply Pick.app))) Split.nil) (crash_spec E d2 X none 0 [] _ InL.none12 (by omega))) ?_); rintro _ _ ⟨rfl, rfl⟩))
              all_goals (first | refine JL.gskip rfl rfl rfl rfl rfl rfl ?_ | refine JL.gskipU rfl rfl rfl rfl rfl ?_ | refine JL.gstep rfl rfl rfl (y_neq rfl rfl) rfl rfl ?_)
              all_goals (refine JL.step (y_pick rfl rfl rfl) rfl rfl rfl ?_)
              all_goals refine JL.nil ?_
              all_goals refine JE.then_normal ?_
              all_goals
                refine J.cond_f rfl (by (first | rfl | assumption | (simp; done) | (simp; omega))) ?_
                refine J.skip ?_
              all_goals refine JE.then_normal ?_
              all_goals
                refine J.seq ?_
                refine J.region ?_
                refine JL.step (y_move rfl) rfl rfl rfl ?_
                refine JL.loud rfl (l_callF e30 rfl rfl (Fc.on (Split.cons (by (repeat (first | exact Pick.head | apply Pick.tail | apply Pick.app))) Split.nil) (again_spec E d2 _ hLc (by omega))) ?_)
                rintro _ _ ⟨lg3, st3, rfl, rfl⟩
                refine JL.step (y_move rfl) rfl rfl rfl (JL.step (y_extract rfl rfl) rfl rfl rfl (JL.step (y_extract rfl rfl) rfl rfl rfl (JL.step (y_assign rfl) rfl rfl rfl (JL.step (y_assign rfl) rfl rfl rfl ?_))))
                refine JL.nil ?_
                refine JE.then_normal ?_
                refine J.seq ?_
                refine J.seq ?_
                refine J.region ?_
                refine JL.step (y_move rfl) rfl rfl rfl (JL.step (y_not rfl) rfl rfl rfl (JL.step (y_move rfl) rfl rfl rfl ?_))
                all_goals (first | (refine JL.gsplit_dec rfl rfl rfl (fun h => ?_) (fun h => ?_) <;> try (first | (exfalso; omega) | exact absurd rfl h)) | (refine JL.gsplit rfl rfl rfl (fun h => ?_) (fun h => ?_) <;> try (first | cases h | (exfalso; simp at h; done))) | skip)
                all_goals (first | refine JL.gskip rfl rfl rfl rfl rfl rfl ?_ | refine JL.gskipU rfl rfl rfl rfl rfl ?_ | refine JL.gstep rfl rfl rfl (y_move rfl) rfl rfl ?_)
                all_goals (first | refine JL.gskip rfl rfl rfl rfl rfl rfl ?_ | refine JL.gskipU rfl rfl rfl rfl rfl ?_ | (refine JL.gloud rfl rfl rfl (l_callF e24 rfl rfl (Fc.on (Split.cons (by (repeat (first | exact Pick.head | apply Pick.tail | apply Pick.app))) Split.nil) (ltxs_len E lg3 st3 lg0 0 _ rfl)) ?_); rintro _ _ ⟨ta, tc, tk, rfl, rfl⟩))
                all_goals (first | refine JL.gskip rfl rfl rfl rfl rfl rfl ?_ | refine JL.gskipU rfl rfl rfl rfl rfl ?_ | refine JL.gstep rfl rfl rfl (y_len_slice hT rfl rfl rfl) rfl rfl ?_)
                all_goals (first | refine JL.gskip rfl rfl rfl rfl rfl rfl ?_ | refine JL.gskipU rfl rfl rfl rfl rfl ?_ | refine JL.gstep rfl rfl rfl (y_neq rfl rfl) rfl rfl ?_)
                all_goals (refine JL.step (y_pick rfl rfl rfl) rfl rfl rfl ?_)
                all_goals (refine JL.step (y_move rfl) rfl rfl rfl ?_)
                all_goals (first | (refine JL.gsplit_dec rfl rfl rfl (fun h => ?_) (fun h => ?_) <;> try (first | (exfalso; omega) | exact absurd rfl h)) | (refine JL.gsplit rfl rfl rfl (fun h => ?_) (fun h => ?_) <;> try (first | cases h | (exfalso; simp at h; done))) | skip)
                all_goals (first | refine JL.gskip rfl rfl rfl rfl rfl rfl ?_ | refine JL.gskipU rfl rfl rfl rfl rfl ?_ | refine JL.gstep rfl rfl rfl (y_move rfl) rfl rfl ?_)
                all_goals (first | refine JL.gskip rfl rfl rfl rfl rfl rfl ?_ | refine JL.gskipU rfl rfl rfl rfl rfl ?_ | (refine JL.gloud rfl rfl rfl (l_callF e19 rfl rfl (Fc.on (Split.cons (by (repeat (first | exact Pick.head | apply Pick.tail | apply Pick.app))) (Split.cons (by (repeat (first | exact Pick.head | apply Pick.tail | apply Pick.app))) (Split.cons (by (repeat (first | exact Pick.head | apply Pick.tail | apply Pick.app))) Split.nil))) (append_lh E lg3 st3 d2 _ hLc [] none 0 0 rfl small_nil (by decide) eA4 InL.none12)) ?_); rintro _ _ ⟨rfl, rfl⟩))
                all_goals (first | refine JL.gskip rfl rfl rfl rfl rfl rfl ?_ | refine JL.gskipU rfl rfl rfl rfl rfl ?_ | refine JL.gstep rfl rfl rfl (y_neq rfl rfl) rfl rfl ?_)
                all_goals (refine JL.step (y_pick rfl rfl rfl) rfl rfl rfl ?_)
                all_goals refine JL.nil ?_
                all_goals refine JE.then_normal ?_
                all_goals
                  refine J.cond_f rfl (by (first | rfl | assumption | (simp; done) | (simp; omega))) ?_
                  refine J.skip ?_
                all_goals refine JE.then_normal ?_
                all_goals
                  refine J.seq ?_
                  refine J.region ?_
                  refine JL.step (y_move rfl) rfl rfl rfl ?_
                  refine JL.loud rfl (l_callF e30 rfl rfl (Fc.on (Split.cons (by (repeat (first | exact Pick.head | apply Pick.tail | apply Pick.app))) Split.nil) (again_spec E d2 _ hL4 (by omega))) ?_)
                  rintro _ _ ⟨lg4, st4, rfl, rfl⟩
                  refine JL.step (y_move rfl) rfl rfl rfl (JL.step (y_extract rfl rfl) rfl rfl rfl (JL.step (y_extract rfl rfl) rfl rfl rfl (JL.step (y_assign rfl) rfl rfl rfl (JL.step (y_assign rfl) rfl rfl rfl ?_))))
                  refine JL.nil ?_
                  refine JE.then_normal ?_
                  refine J.seq ?_
                  refine J.region ?_
                  refine JL.step (y_move rfl) rfl rfl rfl (JL.step (y_move rfl) rfl rfl rfl ?_)
                  all_goals (first | (refine JL.gsplit_dec rfl rfl rfl (fun h => ?_) (fun h => ?_) <;> try (first | (exfalso; omega) | exact absurd rfl h)) | (refine JL.gsplit rfl rfl rfl (fun h => ?_) (fun h => ?_) <;> try (first | cases h | (exfalso; simp at h; done))) | skip)
                  all_goals (first | refine JL.gskip rfl rfl rfl rfl rfl rfl ?_ | refine JL.gskipU rfl rfl rfl rfl rfl ?_ | refine JL.gstep rfl rfl rfl (y_move rfl) rfl rfl ?_)
                  all_goals (first | refine JL.gskip rfl rfl rfl rfl rfl rfl ?_ | refine JL.gskipU rfl rfl rfl rfl rfl ?_ | (refine JL.gloud rfl rfl rfl (l_callF e24 rfl rfl (Fc.on (Split.cons (by (repeat (first | exact Pick.head | apply Pick.tail | apply Pick.app))) Split.nil) (ltxs_len E lg4 st4 _ 1 _ rfl)) ?_); rintro _ _ ⟨ua, uc, uk, rfl, rfl⟩))
                  all_goals (first | refine JL.gskip rfl rfl rfl rfl rfl rfl ?_ | refine JL.gskipU rfl rfl rfl rfl rfl ?_ | refine JL.gstep rfl rfl rfl (y_len_slice hT rfl rfl rfl) rfl rfl ?_)
                  all_goals (first | refine JL.gskip rfl rfl rfl rfl rfl rfl ?_ | refine JL.gskipU rfl rfl rfl rfl rfl ?_ | refine JL.gstep rfl rfl rfl (y_eql rfl rfl) rfl rfl ?_)
                  all_goals (refine JL.step (y_pick rfl rfl rfl) rfl rfl rfl ?_)
                  all_goals (refine JL.step (y_move rfl) rfl rfl rfl ?_)
                  all_goals (first | (refine JL.gsplit_dec rfl rfl rfl (fun h => ?_) (fun h => ?_) <;> try (first | (exfalso; omega) | exact absurd rfl h)) | (refine JL.gsplit rfl rfl rfl (fun h => ?_) (fun h => ?_) <;> try (first | cases h | (exfalso; simp at h; done))) | skip)
                  all_goals (first | refine JL.gskip rfl rfl rfl rfl rfl rfl ?_ | refine JL.gskipU rfl rfl rfl rfl rfl ?_ | refine JL.gstep rfl rfl rfl (y_move rfl) rfl rfl ?_)
                  all_goals (first | refine JL.gskip rfl rfl rfl rfl rfl rfl ?_ | refine JL.gskipU rfl rfl rfl rfl rfl ?_ | (refine JL.gloud rfl rfl rfl (l_callF e24 rfl rfl (Fc.on (Split.cons (by (repeat (first | exact Pick.head | apply Pick.tail | apply Pick.app))) Split.nil) (ltxs_one E lg4 st4 _ [] _ rfl)) ?_); rintro _ _ ⟨va, vc, v0, w0, rfl, hvc, rfl⟩))
                  all_goals (first | refine JL.gskip rfl rfl rfl rfl rfl rfl ?_ | refine JL.gskipU rfl rfl rfl rfl rfl ?_ | refine JL.gstep rfl rfl rfl (y_indexAddr_slice hT rfl rfl rfl rfl rfl (by (first | omega | exact Nat.le_of_ble_eq_true rfl | decide | (simp; omega))) (by (first | omega | exact Nat.le_of_ble_eq_true rfl | decide | (simp; omega)))) rfl rfl ?_)
                  all_goals (first | refine JL.gskip rfl rfl rfl rfl rfl rfl ?_ | refine JL.gskipU rfl rfl rfl rfl rfl ?_ | refine JL.gstep rfl rfl rfl (y_load1 hT rfl rfl rfl (Rd1.elem (i := 0) (RdN.own (by (repeat (first | exact Pick.head | apply Pick.tail | apply Pick.app)))) rfl)) rfl rfl ?_)
                  all_goals (first | refine JL.gskip rfl rfl rfl rfl rfl rfl ?_ | refine JL.gskipU rfl rfl rfl rfl rfl ?_ | refine JL.gstep rfl rfl rfl (y_len_slice hT rfl rfl rfl) rfl rfl ?_)
                  all_goals (first | refine JL.gskip rfl rfl rfl rfl rfl rfl ?_ | refine JL.gskipU rfl rfl rfl rfl rfl ?_ | refine JL.gstep rfl rfl rfl (y_eql rfl rfl) rfl rfl ?_)
                  all_goals (refine JL.step (y_pick rfl rfl rfl) rfl rfl rfl ?_)
                  all_goals (refine JL.step (y_assign rfl) rfl rfl rfl ?_)
                  all_goals refine JL.nil ?_
                  all_goals refine JE.then_normal ?_
                  all_goals
                    refine J.ret ?_
                    refine JE.ret1 (.inl rfl) rfl rfl (by (first | exact RV.tmp rfl | exact RV.cell1 hT rfl rfl rfl (by (exact Rd1.row (by (repeat (first | exact Pick.head | apply Pick.tail | apply Pick.app))) (by rfl))) | exact RV.cellN hT rfl rfl rfl (by (first | exact RdN.rowAll (by (repeat (first | exact Pick.head | apply Pick.tail | apply Pick.app))) | exact RdN.own (by (repeat (first | exact Pick.head | apply Pick.tail | apply Pick.app))))) (by (first | rfl | assumption | (simp; done) | omega)))) ?_
                    exact ⟨rfl, fun w q => q.sup (by (repeat (first | exact Sup.refl | apply Sup.cons (by (repeat (first | exact Pick.head | apply Pick.tail | apply Pick.app))) | apply Sup.app | apply Sup.skip | apply Sup.skips)))⟩
      all_goals refine JE.then_normal ?_
      all_goals
        refine J.seq ?_
        refine J.block ?_
        refine J.seq ?_
        have hltj : j < U := by omega
        obtain ⟨X, hX⟩ : ∃ X, (slotsL D2).getD j [] = X := ⟨_, rfl⟩
        have hX64 : X.length = 64 := by rw [← hX]; exact getD_mem (slotsL_64 hok2 h22) (by rw [slotsL_length]; omega)
        have hXL : (encB X).length = 64 := (encB_length _).trans hX64
        have cslot := fun l => slot_lh E st d l hL2 (i := j) (by omega)
        rw [hX] at cslot
        have hSn : slotBytes D2 (j + 1) = slotBytes D2 j ++ X := by rw [slotBytes, hX]
        have hxs : ∀ bb l', (∃ r, Pick l' (row bb 42 (encB X)) r) → InL l' (some ⟨bb, 0 + 0 * 1, none⟩) 64 64 (ints .u8 X) := fun bb l' ⟨r, hp⟩ => ⟨by decide, by decide, .inl ⟨bb, 0, rfl, fun m => RdN.row (n := 64) (Pick.app m hp) (by simp [encB, ints, hX64, List.take_of_length_le])⟩⟩
        refine J.region ?_
        refine JL.step (y_move rfl) rfl rfl rfl (JL.step (y_assign rfl) rfl rfl rfl ?_)
        refine JL.nil ?_
        refine JE.then_normal ?_
        refine J.seq ?_
        refine J.region ?_
        refine JL.step (y_move rfl) rfl rfl rfl (JL.step (y_move rfl) rfl rfl rfl ?_)
        refine JL.loud rfl (l_callF e22 rfl rfl (Fc.on (Split.cons (by (repeat (first | exact Pick.head | apply Pick.tail | apply Pick.app))) (Split.cons (by (repeat (first | exact Pick.head | apply Pick.tail | apply Pick.app))) Split.nil)) (cslot _)) ?_)
        rintro _ _ ⟨rfl, rfl⟩
        refine JL.step (y_move rfl) rfl rfl rfl (JL.step (y_extract rfl rfl) rfl rfl rfl (JL.step (y_extract rfl rfl) rfl rfl rfl ?_))
        refine JL.loud rfl (l_alloc hT rfl rfl (by (first | rfl | simp)) rfl (fun b21 => ?_))
        refine JL.loud rfl (l_storeAll hT rfl rfl rfl (by (first | rfl | assumption | (simp; done) | omega)) (by (first | assumption | exact ones_of rfl | exact encW_one _ | exact encB_one _ | (intro u hu; simp at hu; rcases hu with rfl | rfl <;> rfl) | (intro u hu; simp at hu; subst hu; rfl) | simp)) (by (repeat (first | exact Pick.head | apply Pick.tail | apply Pick.app))) (by (first | rfl | assumption | (simp; done) | omega)) ?_)
        refine JL.step (y_assign rfl) rfl rfl rfl ?_
        refine JL.nil ?_
        refine JE.then_normal ?_
        refine J.region ?_
        refine JL.step (y_move rfl) rfl rfl rfl ?_
        refine JL.step (y_slice_arr hT rfl rfl rfl rfl (.inl ⟨rfl, rfl⟩) (.inl ⟨rfl, rfl⟩) (by (first | omega | exact Nat.le_of_ble_eq_true rfl | decide | (simp; omega))) (by (first | omega | exact Nat.le_of_ble_eq_true rfl | decide | (simp; omega)))) rfl rfl rfl ?_
        refine JL.loud rfl (l_appendIn (nn := 64 * j) (m := 64) hT rfl rfl rfl rfl rfl rfl rfl rfl (by (repeat (first | exact Pick.head | apply Pick.tail | apply Pick.app))) (hxs _ _ ⟨_, by (repeat (first | exact Pick.head | apply Pick.tail | apply Pick.app))⟩) (by simp [ints, hX64]; rfl) (ints_one _ _) (by rw [show i5.bytes = 1 from rfl]; omega) (by omega) rfl (fun na nc hnc => ?_))
        refine JL.step (y_assign rfl) rfl rfl rfl ?_
        refine JL.nil ?_
        refine JE.block_normal ?_
        refine JE.then_normal ?_
        refine J.region ?_
        refine JL.step (y_add rfl rfl (by (first | exact wrap_i64 (by omega) (by omega) | rfl))) rfl rfl rfl ?_
        refine JL.step (y_move rfl) rfl rfl rfl ?_
        refine JL.nil ?_
      all_goals
        refine JE.round (s := (j, a, c)) (j + 1, na, nc) (by dsimp only; omega) ⟨rfl, rfl, rfl, rfl, rfl, trivial⟩ (fun w q => ?_) (by dsimp only; omega)
        dsimp only
        rw [hSn, show 64 * (j + 1) = 64 * j + 64 from rfl, show ints .u8 (slotBytes D2 j ++ X) = ints .u8 (slotBytes D2 j) ++ ints .u8 X by simp [ints]]
        exact q.sup (by (repeat (first | exact Sup.refl | apply Sup.cons (by (repeat (first | exact Pick.head | apply Pick.tail | apply Pick.app))) | apply Sup.app | apply Sup.skip | apply Sup.skips)))
end
section
open Go.ChangeShapes Go.WideShapes Go.ChangeAt Go.RowKit
theorem wal_forges_reads : ∀ t ∈ Try.f7.params.toList, Try.prog.readableRec t = true ∧ t < Try.prog.types.size := by
  rw [Try.params7]
  intro t ht
  simp only [List.mem_cons, List.not_mem_nil, or_false] at ht
  rcases ht with rfl | rfl | rfl
  all_goals exact ⟨by kernel_rfl, of_decide_eq_true (by kernel_rfl)⟩
set_option maxRecDepth 100000 in
theorem wal_forges_contract (H : Type) (enc : TypeId × Value → H) (W : World) (base : Nat) (args : Array Value) (ds gs : List (DataW H)) (before : List MemPlace)
    (hval : ∀ (j : Nat) t v, Try.f7.params[j]? = some t → args[j]? = some v → Value.okWide Try.prog W .any base t v)
    (hW : DataW.Whole enc Try.prog Try.f7.params.toList Rows.walForgesSpec.vars false W args.toList ds gs before) :
    Calls Try.prog 7 args W fun e W' => ∃ v, e = .returned v ∧ Rows.walForgesSpec.post enc Try.prog Try.f7 false true false false W args v W' := by
  have hW' := hW
  obtain ⟨p, q, hA0, hV, rfl, hfz, hnd⟩ := hW
  have hA : DataW.TrodAll enc Try.prog W 0 (fun _ => true) true Try.f7.params.toList args.toList ds p := hA0
  rw [Try.params7] at hA hval
  obtain ⟨v0, vs0, d0, ds0, p0, q0, hargs, rfl, rfl, h0, r0⟩ := trodAll_cons hA
  obtain ⟨v1, vs1, d1, ds1, p1, q1, rfl, rfl, rfl, h1, r1⟩ := trodAll_cons r0
  obtain ⟨v2, vs2, d2, ds2, p2, q2, rfl, rfl, rfl, h2, r2⟩ := trodAll_cons r1
  obtain ⟨rfl, rfl, rfl⟩ := trodAll_nil r2
  obtain rfl : args = #[v0, v1, v2] := by cases args; simp_all
  obtain ⟨rfl, rfl⟩ := trodVars_none hV
  clear hA0
  have t0 : Tr enc prog (fun _ => True) W 36 [v0] := Tr.ofSlice u36 (hval 0 36 v0 rfl rfl) h0 trivial
  have t1 : Tr enc prog (fun _ => True) W 36 [v1] := Tr.ofSlice u36 (hval 1 36 v1 rfl rfl) h1 trivial
  have t2 : Tr enc prog (fun _ => True) W 3 [v2] := Tr.ofInt u3 (hval 2 3 v2 rfl rfl) h2 trivial
  obtain ⟨p1, c1, xs, rfl, _, hb1, hin1⟩ := tr_bytesR Her.all t0
  obtain ⟨p2, c2, ys, rfl, _, hb2, hin2⟩ := tr_bytesR Her.all t1
  obtain ⟨n, e0, hn⟩ := Tr.int u3 t2
  cases e0
  refine ((wal_forges W p1 p2 c1 c2 xs ys n [old W] hb1 hb2 (hin1.inl []) (hin2.inl [])) W (Sat.start W)).mono fun e W' hq => ?_
  obtain ⟨v, l', rfl, hs, rfl, rfl⟩ := hq
  exact ⟨_, rfl, law_post laidOut_ rfl rfl u4 wal_forges_reads hW' rfl rfl rfl hs.below⟩
set_option maxRecDepth 100000 in
theorem wal_forges_lifted (os : Os) (started : os.Started) (H : Type) (enc : TypeId × Value → H) :
    ReturnsInHanded {} Try.checked os 7 .any (Rows.walForgesSpec.pre6 enc Try.prog Try.f7 Rows.walForgesRow.domain false) (Rows.walForgesSpec.post enc Try.prog Try.f7 false true false false) := by
  refine returnsInHanded_of_change (C := Try.checked) own_ started (by kernel_rfl) Try.func7
    (ChangeSpec.witness6 (enc := enc) (C := Try.checked) false ⟨#[], #[.slice none 0 0, .slice none 0 0, .int .i64 0], []⟩ 8 (by kernel_rfl) (by kernel_rfl) (by kernel_rfl) (by kernel_rfl)) ?_
  intro W base args ds gs before hval hW _ _
  exact wal_forges_contract H enc W base args ds gs before hval hW
theorem wal_forges_holds : Rows.WalForgesSaid :=
  OpenClaim.holds_of_wide 7 Try.f7 rfl rfl rfl rfl rfl rfl rfl ⟨rfl, rfl, rfl, rfl, rfl⟩ rfl rfl rfl rfl rfl (by kernel_rfl) Try.func7 (by kernel_rfl)
    (of_decide_eq_true (by kernel_rfl)) (by unfold Func.isWrapper; first | (rw [if_pos (by decide +kernel)]; kernel_rfl) | (rw [if_neg (by decide +kernel)]; exact ⟨rfl, rfl⟩))
    (fun os started H enc _ => wal_forges_lifted os started H enc)
end
end Go.Proofs.Ytmgagkpokmaefaa
