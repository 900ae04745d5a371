
/-
  hollowtreelaw12.WalLays returns true for every input, and leaves its input as it was. No condition.
-/
import Derived.Test.YtmgagkpokmaefaaJoin3
import Derived.Test.YtmgagkpokmaefaaJoin8
namespace Go.Proofs.Ytmgagkpokmaefaa
open Go Go.SL
section
attribute [local irreducible] J JL JE JM LS Y Fc RV Code.wp wpList Code.wpIn wpListIn
attribute [local irreducible] Yc
variable (E : World)
theorem wal_lays (n : Int) (p : Option Addr) (cap : Nat) (xs : List Sn) (r : List HProp) (hin : InL r p xs.length cap (xs.map snV)) (hx : ∀ s ∈ xs, InL r s.1 s.2.2.length s.2.1 (ints .u8 s.2.2) ∧ Bytes s.2.2) :
    Fc prog E 4 [.int .i64 n, .slice p xs.length cap].toArray r (fun v l' => v = .bool true ∧ l' = r) := by
  refine Fc.eqs ?_
  have hN := storeN_le n
  obtain ⟨hL0, hl0⟩ := lh_format (n := storeN n) hN.1 (by omega)
  obtain ⟨D0, hD0⟩ : ∃ D0, (Dk.new (storeN n)).formatted = D0 := ⟨_, rfl⟩
  obtain ⟨N, hNe⟩ : ∃ N, storeN n = N := ⟨_, rfl⟩
  rw [hD0] at hL0 hl0
  rw [hNe] at hl0 hN
  have hs1 : Small [115] := ⟨fun x h => by rw [List.mem_singleton] at h; omega, by decide⟩
  have hhf : 15 ≤ D0.half := by unfold Dk.half; omega
  obtain ⟨D1, eC, hL1, hl1⟩ := hL0.check (state := [115]) hs1 (by show 1 ≤ _; omega) (by decide)
  obtain ⟨m, hm⟩ : ∃ m, min xs.length 20 = m := ⟨_, rfl⟩
  have hlen := hin.le
  have hmost := hin.most
  have hmx : xs.length ≤ 9223372036854775807 := by unfold maxLen at hmost; omega
  refine Fc.of_body (c := ?codeC) Try.func4 ?hb Try.ntmps4 ?hl ?_
  case hb => exact rfl
  case hl => exact rfl
  refine J.seq ?_
  refine J.region ?_
  refine JL.step (y_assign rfl) rfl rfl rfl ?_
  refine JL.nil ?_
  refine JE.then_normal ?_
  refine J.seq ?_
  refine J.seq ?_
  refine J.region ?_
  refine JL.loud rfl (l_callF e11 rfl rfl (wakes12_spec E _) ?_)
  rintro _ l1 ⟨rfl, e1⟩
  obtain rfl := e1.symm
  refine JL.step (y_not rfl) rfl rfl rfl ?_
  refine JL.nil ?_
  refine JE.then_normal ?_
  refine J.cond_f rfl (by (first | rfl | assumption | (simp; done) | (simp; omega))) ?_
  refine J.skip ?_
  refine JE.then_normal ?_
  refine J.seq ?_
  refine J.region ?_
  refine JL.step (y_move rfl) rfl rfl rfl ?_
  refine JL.loud rfl (l_callF e12 rfl rfl (store_spec E n _) ?_)
  rintro _ _ ⟨d, st, rfl, rfl⟩
  rw [hD0]
  refine JL.step (y_move rfl) rfl rfl rfl (JL.step (y_extract rfl rfl) rfl rfl rfl (JL.step (y_extract rfl rfl) rfl rfl rfl (JL.step (y_assign rfl) rfl rfl rfl (JL.step (y_assign rfl) rfl rfl rfl ?_))))
  refine JL.nil ?_
  refine JE.then_normal ?_
  refine J.seq ?_
  refine J.region ?_
  refine JL.step (y_move rfl) rfl rfl rfl ?_
  refine JL.loud rfl (l_callF e13 rfl rfl (Fc.on (Split.cons (by (repeat (first | exact Pick.head | apply Pick.tail | apply Pick.app))) (Split.cons (by (repeat (first | exact Pick.head | apply Pick.tail | apply Pick.app))) Split.nil)) (lopen_lh E st d sb0 D0 lg0 _ hL0)) ?_)
  rintro _ _ ⟨lg, rfl, rfl⟩
  refine JL.step (y_move rfl) rfl rfl rfl (JL.step (y_extract rfl rfl) rfl rfl rfl (JL.step (y_extract rfl rfl) rfl rfl rfl (JL.step (y_assign rfl) rfl rfl rfl (JL.step (y_assign rfl) rfl rfl rfl ?_))))
  refine JL.nil ?_
  refine JE.then_normal ?_
  refine J.seq ?_
  refine J.seq ?_
  refine J.region ?_
  refine JL.step (y_move rfl) rfl rfl rfl (JL.step (y_ptr_eq_nil hT rfl rfl rfl rfl) rfl rfl rfl (JL.step (y_move rfl) rfl rfl rfl ?_))
  all_goals (first | (refine JL.gsplit_dec rfl rfl rfl (fun h => ?_) (fun h => ?_) <;> try (first | (exfalso; omega) | exact absurd rfl h)) | (refine JL.gsplit rfl rfl rfl (fun h => ?_) (fun h => ?_) <;> try (first | cases h | (exfalso; simp at h; done))) | skip)
  all_goals (first | refine JL.gskip rfl rfl rfl rfl rfl rfl ?_ | refine JL.gskipU rfl rfl rfl rfl rfl ?_ | refine JL.gstep rfl rfl rfl (y_move rfl) rfl rfl ?_)
  all_goals (first | refine JL.gskip rfl rfl rfl rfl rfl rfl ?_ | refine JL.gskipU rfl rfl rfl rfl rfl ?_ | refine JL.gstep rfl rfl rfl (y_neq rfl rfl) rfl rfl ?_)
  all_goals (refine JL.step (y_pick rfl rfl rfl) rfl rfl rfl ?_)
  all_goals refine JL.nil ?_
  all_goals refine JE.then_normal ?_
  all_goals
    refine J.cond_f rfl (by (first | rfl | assumption | (simp; done) | (simp; omega))) ?_
    refine J.skip ?_
  all_goals refine JE.then_normal ?_
  all_goals
    refine J.seq ?_
    refine J.seqK (α := Sb × Dk × Lg) (fun s => LH s.1 s.2.1 s.2.2 ∧ s.2.2.used = 0 ∧ s.2.2.txs = [] ∧ s.2.1.safe.length = N) (fun _ => [(1, .slice p xs.length cap), (6, .pointer (some ⟨st, 0, none⟩)), (7, .pointer (some ⟨lg, 0, none⟩)), (45, .bool false)]) (fun s => logm lg st s.2.2 :: row st 90 (scells s.1 d) :: disk d s.2.1 :: r) ?hj8 (fun hk8 => ?hf8)
    case hf8 =>
      by_cases hodd : xs.length % 2 = 1
      all_goals
        refine J.region ?_
        refine JL.step (y_move rfl) rfl rfl rfl (JL.step (y_len_slice hT rfl rfl rfl) rfl rfl rfl ?_)
        refine JL.step (y_rem (m := ((xs.length % 2 : Nat) : Int)) rfl rfl (by decide) (by rw [Int.tmod_eq_emod_of_nonneg (by omega)]; omega)) rfl rfl rfl ?_
        first | refine JL.step (y_eqlB rfl rfl (decide_eq_true (by omega))) rfl rfl rfl ?_ | refine JL.step (y_eqlB rfl rfl (decide_eq_false (by omega))) rfl rfl rfl ?_
        refine JL.step (y_move rfl) rfl rfl rfl ?_
        all_goals (first | (refine JL.gsplit_dec rfl rfl rfl (fun h => ?_) (fun h => ?_) <;> try (first | (exfalso; omega) | exact absurd rfl h)) | (refine JL.gsplit rfl rfl rfl (fun h => ?_) (fun h => ?_) <;> try (first | cases h | (exfalso; simp at h; done))) | skip)
        all_goals (first | refine JL.gskip rfl rfl rfl rfl rfl rfl ?_ | refine JL.gskipU rfl rfl rfl rfl rfl ?_ | refine JL.gstep rfl rfl rfl (y_move rfl) rfl rfl ?_)
        all_goals (first | refine JL.gskip rfl rfl rfl rfl rfl rfl ?_ | refine JL.gskipU rfl rfl rfl rfl rfl ?_ | (refine JL.gloud rfl rfl rfl (l_buildSliceP hT rfl rfl rfl rfl rfl rfl rfl (by (first | exact fill_one rfl (by first | assumption | rfl | (simp; done)) | rfl | simp)) rfl (fun b4 => ?_))))
        all_goals (first | refine JL.gskip rfl rfl rfl rfl rfl rfl ?_ | refine JL.gskipU rfl rfl rfl rfl rfl ?_ | (refine JL.gloud rfl rfl rfl (l_convBytes hT rfl rfl rfl rfl rfl (by (repeat (first | exact Pick.head | apply Pick.tail | apply Pick.app))) rfl ?_)))
        all_goals (first | refine JL.gskip rfl rfl rfl rfl rfl rfl ?_ | refine JL.gskipU rfl rfl rfl rfl rfl ?_ | (refine JL.gloud rfl rfl rfl (l_callF e18 rfl rfl (Fc.on (Split.cons (by (repeat (first | exact Pick.head | apply Pick.tail | apply Pick.app))) (Split.cons (by (repeat (first | exact Pick.head | apply Pick.tail | apply Pick.app))) (Split.cons (by (repeat (first | exact Pick.head | apply Pick.tail | apply Pick.app))) Split.nil))) (check_lh E lg st d _ hL0 [115] _ _ 1 rfl hs1 eC (InL.ofMrow (by (repeat (first | exact Pick.head | apply Pick.tail | apply Pick.app))) (by decide)))) ?_); rintro _ _ ⟨rfl, rfl⟩))
        all_goals (first | refine JL.gskip rfl rfl rfl rfl rfl rfl ?_ | refine JL.gskipU rfl rfl rfl rfl rfl ?_ | refine JL.gstep rfl rfl rfl (y_neq rfl rfl) rfl rfl ?_)
        all_goals (refine JL.step (y_pick rfl rfl rfl) rfl rfl rfl ?_)
        all_goals refine JL.nil ?_
      all_goals refine JE.then_normal ?_
      all_goals
        first
          | (have zz : ¬ xs.length % 2 = 1 := hodd
             refine J.closeK hk8 (sb0, D0, lg0) ⟨hL0, rfl, rfl, hl0⟩ ⟨rfl, rfl, rfl, rfl, trivial⟩ ?_
             exact fun w q => q.sup (by (repeat (first | exact Sup.refl | apply Sup.cons (by (repeat (first | exact Pick.head | apply Pick.tail | apply Pick.app))) | apply Sup.app | apply Sup.skip | apply Sup.skips))))
          | (refine J.closeK hk8 (nextS sb0 [115], D1, ⟨[115], [], 0, false⟩) ⟨hL1, rfl, rfl, hl1.trans hl0⟩ ⟨rfl, rfl, rfl, rfl, trivial⟩ ?_
             exact fun w q => q.sup (by (repeat (first | exact Sup.refl | apply Sup.cons (by (repeat (first | exact Pick.head | apply Pick.tail | apply Pick.app))) | apply Sup.app | apply Sup.skip | apply Sup.skips))))
    rintro ⟨S, D2, L2⟩ ⟨hL2, hu2, ht2, hl2⟩
    dsimp only at hL2 hu2 ht2 hl2 ⊢
    refine J.cond_f rfl (by (first | rfl | assumption | (simp; done) | (simp; omega))) ?_
    refine J.skip ?_
    all_goals refine JE.then_normal ?_
    all_goals
      refine J.seq ?_
      refine J.region ?_
      refine JL.step (y_assign rfl) rfl rfl rfl (JL.step (y_assign rfl) rfl rfl rfl ?_)
      refine JL.nil ?_
      refine JE.then_normal ?_
      refine J.seq ?_
      refine J.seq ?_
      refine J.region ?_
      refine JL.step (y_move rfl) rfl rfl rfl (JL.step (y_move rfl) rfl rfl rfl (JL.step (y_len_slice hT rfl rfl rfl) rfl rfl rfl ?_))
      refine JL.step (y_min2 (m := (m : Int)) rfl rfl (by omega)) rfl rfl rfl ?_
      refine JL.step (y_cutTo hT rfl rfl rfl rfl rfl rfl (show m ≤ xs.length by omega) hin) rfl rfl rfl ?_
      refine JL.step (y_len_slice hT rfl rfl rfl) rfl rfl rfl (JL.step (y_move rfl) rfl rfl rfl ?_)
      refine JL.nil ?_
      refine JE.then_normal ?_
      refine J.block ?_
      refine J.loop (α := Nat × Dk × Lg) (fun s => s.1 ≤ m ∧ LH S s.2.1 s.2.2 ∧ s.2.2.txs.length ≤ s.1 ∧ s.2.1.safe.length = N) (fun s => [(6, .pointer (some ⟨st, 0, none⟩)), (7, .pointer (some ⟨lg, 0, none⟩)), (9, .int .i64 s.2.2.used), (10, .int .i64 s.2.2.txs.length), (50, .slice p m cap), (51, .int .i64 m), (52, .int .i64 s.1)]) (fun s => logm lg st s.2.2 :: row st 90 (scells S d) :: disk d s.2.1 :: r) (fun s => m - s.1) (0, D2, L2) ⟨Nat.zero_le _, hL2, by rw [ht2]; exact Nat.zero_le _, hl2⟩ ⟨rfl, rfl, by dsimp only; rw [hu2]; rfl, by dsimp only; rw [ht2]; rfl, rfl, rfl, rfl, trivial⟩ (fun w h => h.sup (by (repeat (first | exact Sup.refl | apply Sup.cons (by (repeat (first | exact Pick.head | apply Pick.tail | apply Pick.app))) | apply Sup.app | apply Sup.skip | apply Sup.skips)))) ?_
      rintro ⟨i, D, L⟩ ⟨hi, hL, hti, hl⟩
      dsimp only at hi hL hti hl ⊢
      have hus := hL.used
      have hfit := hL.fit
      have hsl : D.slots ≤ 512 := hL.slots
      refine J.seq ?_
      refine J.region ?_
      refine JL.step (y_lss rfl rfl) rfl rfl rfl ?_
      refine JL.nil ?_
      refine JE.then_normal ?_
      refine J.seq ?_
      first | apply J.cond_dec rfl | apply J.cond rfl
      case' ht =>
        intro h
        try (first | (exfalso; omega) | (cases h; done) | (exfalso; simp at h; done) | subst h)
        all_goals
          refine J.skip ?_
      case' hf =>
        intro h
        try (first | (exfalso; omega) | (cases h; done) | (exfalso; simp at h; done) | subst h)
        all_goals
          refine J.exit ?_
          refine JE.then_exit ?_
          refine JE.then_exit ?_
          refine JE.block_exit ?_
          refine JE.then_normal ?_
          refine J.seq ?_
          refine J.region ?_
          refine JL.step (y_move rfl) rfl rfl rfl ?_
          refine JL.loud rfl (l_callF e23 rfl rfl (Fc.on (Split.cons (by (repeat (first | exact Pick.head | apply Pick.tail | apply Pick.app))) Split.nil) (lused_spec E lg st L _)) ?_)
          rintro _ _ ⟨rfl, rfl⟩
          refine JL.step (y_move rfl) rfl rfl rfl (JL.step (y_eql rfl rfl) rfl rfl rfl (JL.step (y_assign rfl) rfl rfl rfl ?_))
          refine JL.nil ?_
          refine JE.then_normal ?_
          refine J.ret ?_
          refine JE.ret1 (.inl rfl) rfl rfl (by (first | exact RV.tmp rfl | exact RV.cell1 hT rfl rfl rfl (by (exact Rd1.row (by (repeat (first | exact Pick.head | apply Pick.tail | apply Pick.app))) (by rfl))) | exact RV.cellN hT rfl rfl rfl (by (first | exact RdN.rowAll (by (repeat (first | exact Pick.head | apply Pick.tail | apply Pick.app))) | exact RdN.own (by (repeat (first | exact Pick.head | apply Pick.tail | apply Pick.app))))) (by (first | rfl | assumption | (simp; done) | omega)))) ?_
          exact ⟨congrArg Value.bool (decide_eq_true rfl), fun w q => q.sup (by (repeat (first | exact Sup.refl | apply Sup.cons (by (repeat (first | exact Pick.head | apply Pick.tail | apply Pick.app))) | apply Sup.app | apply Sup.skip | apply Sup.skips)))⟩
      all_goals refine JE.then_normal ?_
      all_goals
        refine J.seq ?_
        refine J.block ?_
        refine J.seq ?_
        refine J.region ?_
        have hlt : i < m := by omega
        obtain ⟨go, oo, rfl, hro⟩ := hin.addr (by omega)
        have hro0 : RdN r go oo (xs.map snV) := hro []
        obtain ⟨⟨px, cx, bs⟩, hxi⟩ : ∃ x, xs[i]? = some x := ⟨_, List.getElem?_eq_getElem (by omega)⟩
        obtain ⟨hbin, hbb⟩ := hx _ (List.mem_of_getElem? hxi)
        dsimp only at hbin hbb
        have hxv : (xs.map snV)[i]? = some (.slice px bs.length cx) := by rw [List.getElem?_map, hxi]; rfl
        obtain ⟨k, hk⟩ : ∃ k, min bs.length 2000 = k := ⟨_, rfl⟩
        obtain ⟨tx, htx⟩ : ∃ tx, bs.take k = tx := ⟨_, rfl⟩
        have htl : tx.length = k := by rw [← htx, List.length_take]; omega
        have hts : Small tx := ⟨by rw [← htx]; exact hbb.take k, by omega⟩
        have htin : InL r px k cx (ints .u8 tx) := by
          have q := hbin.cutTo k k (by omega)
          rwa [show (ints .u8 bs).take k = ints .u8 tx by rw [← htx]; simp [ints, List.map_take]] at q
        obtain ⟨L', D', e, eA, hL', hl', hor⟩ := hL.put hts
        have hbmost := hbin.most
        have hble := hbin.le
        have hb63 : bs.length ≤ 9223372036854775807 := by unfold maxLen at hbmost; omega
        refine JL.step (y_indexAddr_slice hT rfl rfl rfl rfl rfl (by (first | omega | exact Nat.le_of_ble_eq_true rfl | decide | (simp; omega))) (by (first | omega | exact Nat.le_of_ble_eq_true rfl | decide | (simp; omega)))) rfl rfl rfl ?_
        refine JL.step (y_load1 hT rfl rfl rfl (Rd1.elem (by (repeat (first | assumption | apply RdN.cons | apply RdN.app))) hxv)) rfl rfl rfl ?_
        refine JL.step (y_assign rfl) rfl rfl rfl ?_
        refine JL.nil ?_
        refine JE.then_normal ?_
        refine J.seq ?_
        refine J.region ?_
        refine JL.step (y_move rfl) rfl rfl rfl (JL.step (y_move rfl) rfl rfl rfl (JL.step (y_len_slice hT rfl rfl rfl) rfl rfl rfl ?_))
        refine JL.step (y_min2 (m := (k : Int)) rfl rfl (by omega)) rfl rfl rfl ?_
        refine JL.step (y_cutTo hT rfl rfl rfl rfl rfl rfl (show k ≤ bs.length by omega) hbin) rfl rfl rfl ?_
        refine JL.step (y_assign rfl) rfl rfl rfl ?_
        refine JL.nil ?_
        refine JE.then_normal ?_
        refine J.seq ?_
        refine J.seq ?_
        refine J.region ?_
        refine JL.step (y_move rfl) rfl rfl rfl (JL.step (y_move rfl) rfl rfl rfl ?_)
        refine JL.loud rfl (l_callF e19 rfl rfl (Fc.on (Split.cons (by (repeat (first | exact Pick.head | apply Pick.tail | apply Pick.app))) (Split.cons (by (repeat (first | exact Pick.head | apply Pick.tail | apply Pick.app))) (Split.cons (by (repeat (first | exact Pick.head | apply Pick.tail | apply Pick.app))) Split.nil))) (append_lh E lg st d _ hL tx px cx k htl hts (by omega) eA (by (repeat (first | assumption | apply InL.cons | apply InL.app))))) ?_)
        rintro _ _ ⟨rfl, rfl⟩
        refine JL.step (y_neq rfl rfl) rfl rfl rfl ?_
        refine JL.nil ?_
        refine JE.then_normal ?_
        first | apply J.cond_dec rfl | apply J.cond rfl
        case' ht =>
          intro h
          try (first | (exfalso; omega) | (cases h; done) | (exfalso; simp at h; done) | subst h)
          all_goals
            obtain ⟨_, _, rfl, rfl⟩ := hor.resolve_left (fun h' => by omega)
            refine J.exit ?_
            refine JE.then_exit ?_
            refine JE.block_exit ?_
            refine JE.then_normal ?_
            refine J.region ?_
            refine JL.step (y_add rfl rfl (by (first | exact wrap_i64 (by omega) (by omega) | rfl))) rfl rfl rfl ?_
            refine JL.step (y_move rfl) rfl rfl rfl ?_
            refine JL.nil ?_
            first
              | (have zz := hWx
                 obtain rfl : j = needN k := by omega
                 exact JE.round (s := (i, D, L)) (i + 1, D', L') ⟨by dsimp only; omega, hL', by dsimp only; rw [hLe]; simp; omega, by dsimp only; omega⟩ ⟨rfl, rfl, by dsimp only; rw [hLe, htl]; rfl, by dsimp only; rw [hLe]; simp; rfl, rfl, rfl, rfl, trivial⟩ (fun w q => q.sup (by (repeat (first | exact Sup.refl | apply Sup.cons (by (repeat (first | exact Pick.head | apply Pick.tail | apply Pick.app))) | apply Sup.app | apply Sup.skip | apply Sup.skips)))) (by dsimp only; omega))
              | exact JE.round (s := (i, D', L')) (i + 1, D', L') ⟨by dsimp only; omega, hL', by dsimp only; omega, by dsimp only; omega⟩ ⟨rfl, rfl, rfl, rfl, rfl, rfl, rfl, trivial⟩ (fun w q => q.sup (by (repeat (first | exact Sup.refl | apply Sup.cons (by (repeat (first | exact Pick.head | apply Pick.tail | apply Pick.app))) | apply Sup.app | apply Sup.skip | apply Sup.skips)))) (by dsimp only; omega)
        case' hf =>
          intro h
          try (first | (exfalso; omega) | (cases h; done) | (exfalso; simp at h; done) | subst h)
          all_goals
            obtain ⟨hroom, he0, hLe⟩ := hor.resolve_right (fun h' => by omega)
            have hA : AtTx S.turn L.txs.length tx (slotsL D') L.used := by
              have q := hL'.secs L.txs.length tx (by rw [hLe]; simp)
              rwa [hLe, show List.take L.txs.length (L.txs ++ [tx]) = L.txs by simp, ← hus] at q
            have hds : D'.slots = D.slots := by unfold Dk.slots Dk.half; rw [hl']
            refine J.skip ?_
        all_goals refine JE.then_normal ?_
        all_goals
          refine J.seq ?_
          refine J.seq ?_
          refine J.region ?_
          refine JL.step (y_move rfl) rfl rfl rfl ?_
          refine JL.loud rfl (l_callF e21 rfl rfl (Fc.on (Split.cons (by (repeat (first | exact Pick.head | apply Pick.tail | apply Pick.app))) (Split.cons (by (repeat (first | exact Pick.head | apply Pick.tail | apply Pick.app))) Split.nil)) (turn_spec E st d S D' _ hL'.holds.fits.hash)) ?_)
          rintro _ _ ⟨rfl, rfl⟩
          refine JL.step (y_move rfl) rfl rfl rfl (JL.step (y_move rfl) rfl rfl rfl ?_)
          refine JL.loud rfl (l_callF e20 rfl rfl (rsectors_spec E S.turn L.txs.length px cx k tx _ htl (by omega) (by (repeat (first | assumption | apply InL.cons | apply InL.app)))) ?_)
          rintro _ _ ⟨sa, sc, rfl, rfl⟩
          refine JL.step (y_len_slice hT rfl rfl rfl) rfl rfl rfl (JL.step (y_move rfl) rfl rfl rfl ?_)
          refine JL.nil ?_
          refine JE.then_normal ?_
          refine J.block ?_
          obtain ⟨W, hW⟩ : ∃ W, secs S.turn L.txs.length tx = W := ⟨_, rfl⟩
          have hW64 : ∀ x ∈ W, (encB x).length = 64 := fun x h => by rw [← hW] at h; exact (encB_length _).trans (secs_64 _ _ _ x h)
          have hWx : ∀ j, j < needN k → W[j]? = some ((slotsL D').getD (L.used + j) []) := fun j hj => by rw [← hW]; exact hA.sec (by rw [htl]; exact hj)
          rw [htl] at hroom
          rw [hW]
          refine J.fact (p := OwnAt sa (needN k) sc (W.flatMap encB)) (fun w s => Sat.own_at (s.pick (by (repeat (first | exact Pick.head | apply Pick.tail | apply Pick.app))))) fun oa => ?_
          refine J.loop (α := Nat) (fun j => j ≤ needN k) (fun j => [(6, .pointer (some ⟨st, 0, none⟩)), (7, .pointer (some ⟨lg, 0, none⟩)), (9, .int .i64 ((L.used : Int) + j)), (10, .int .i64 L.txs.length), (50, .slice (some ⟨go, oo, none⟩) m cap), (51, .int .i64 m), (52, .int .i64 i), (69, .slice sa (needN k) sc), (70, .int .i64 (needN k)), (71, .int .i64 j)]) (fun j => own 42 64 (.slice sa (needN k) sc) (needN k) (W.flatMap encB) :: logm lg st L' :: row st 90 (scells S d) :: disk d D' :: r) (fun j => needN k - j) 0 (Nat.zero_le _) ⟨rfl, rfl, by rw [show ((0 : Nat) : Int) = 0 from rfl, Int.add_zero]; rfl, rfl, rfl, rfl, rfl, rfl, rfl, rfl, trivial⟩ (fun w h => h.sup (by (repeat (first | exact Sup.refl | apply Sup.cons (by (repeat (first | exact Pick.head | apply Pick.tail | apply Pick.app))) | apply Sup.app | apply Sup.skip | apply Sup.skips)))) ?_
          intro j hj
          refine J.seq ?_
          refine J.region ?_
          refine JL.step (y_lss rfl rfl) rfl rfl rfl ?_
          refine JL.nil ?_
          refine JE.then_normal ?_
          refine J.seq ?_
          first | apply J.cond_dec rfl | apply J.cond rfl
          case' ht =>
            intro h
            try (first | (exfalso; omega) | (cases h; done) | (exfalso; simp at h; done) | subst h)
            all_goals
              refine J.skip ?_
          case' hf =>
            intro h
            try (first | (exfalso; omega) | (cases h; done) | (exfalso; simp at h; done) | subst h)
            all_goals
              refine J.exit ?_
              refine JE.then_exit ?_
              refine JE.then_exit ?_
              refine JE.block_exit ?_
              refine JE.then_normal ?_
              refine J.region ?_
              refine JL.step (y_move rfl) rfl rfl rfl ?_
              refine JL.step (y_add rfl rfl (by (first | exact wrap_i64 (by omega) (by omega) | rfl))) rfl rfl rfl ?_
              refine JL.step (y_assign rfl) rfl rfl rfl ?_
              refine JL.nil ?_
              refine JE.block_normal ?_
              refine JE.then_normal ?_
              refine J.region ?_
              refine JL.step (y_add rfl rfl (by (first | exact wrap_i64 (by omega) (by omega) | rfl))) rfl rfl rfl ?_
              refine JL.step (y_move rfl) rfl rfl rfl ?_
              refine JL.nil ?_
              first
                | (have zz := hWx
                   obtain rfl : j = needN k := by omega
                   exact JE.round (s := (i, D, L)) (i + 1, D', L') ⟨by dsimp only; omega, hL', by dsimp only; rw [hLe]; simp; omega, by dsimp only; omega⟩ ⟨rfl, rfl, by dsimp only; rw [hLe, htl]; rfl, by dsimp only; rw [hLe]; simp; rfl, rfl, rfl, rfl, trivial⟩ (fun w q => q.sup (by (repeat (first | exact Sup.refl | apply Sup.cons (by (repeat (first | exact Pick.head | apply Pick.tail | apply Pick.app))) | apply Sup.app | apply Sup.skip | apply Sup.skips)))) (by dsimp only; omega))
                | exact JE.round (s := (i, D', L')) (i + 1, D', L') ⟨by dsimp only; omega, hL', by dsimp only; omega, by dsimp only; omega⟩ ⟨rfl, rfl, rfl, rfl, rfl, rfl, rfl, trivial⟩ (fun w q => q.sup (by (repeat (first | exact Sup.refl | apply Sup.cons (by (repeat (first | exact Pick.head | apply Pick.tail | apply Pick.app))) | apply Sup.app | apply Sup.skip | apply Sup.skips)))) (by dsimp only; omega)
          all_goals refine JE.then_normal ?_
          all_goals
            refine J.seq ?_
            refine J.block ?_
            refine J.seq ?_
            refine J.region ?_
            have hltj : j < needN k := by omega
            obtain ⟨ga, rfl⟩ := oa.at_.resolve_right fun ⟨h0, _⟩ => by have := oa.le; omega
            have hWj := hWx j hltj
            obtain ⟨X, hX⟩ : ∃ X, (slotsL D').getD (L.used + j) [] = X := ⟨_, rfl⟩
            rw [hX] at hWj
            have hXL := hW64 X (List.mem_of_getElem? hWj)
            have hX64 : X.length = 64 := by rw [encB_length] at hXL; exact hXL
            have cslot : ∀ l, Fc prog E 22 [.pointer (some ⟨st, 0, none⟩), .int .i64 ((L.used : Int) + j)].toArray (row st 90 (scells S d) :: disk d D' :: l) (fun v l' => v = .tuple #[.agg (encB X).toArray, .int .i64 0] ∧ l' = row st 90 (scells S d) :: disk d D' :: l) := fun l => by
              have q := slot_lh E st d l hL' (i := L.used + j) (by omega)
              rwa [hX, show ((L.used + j : Nat) : Int) = (L.used : Int) + j by omega] at q
            refine JL.step (y_indexAddr_slice hT rfl rfl rfl rfl rfl (by (first | omega | exact Nat.le_of_ble_eq_true rfl | decide | (simp; omega))) (by (first | omega | exact Nat.le_of_ble_eq_true rfl | decide | (simp; omega)))) rfl rfl rfl ?_
            refine JL.step (y_loadN hT rfl rfl rfl (RdN.elem (RdN.own (by (repeat (first | exact Pick.head | apply Pick.tail | apply Pick.app)))) hW64 hWj) hXL) rfl rfl rfl ?_
            refine JL.loud rfl (l_alloc hT rfl rfl (by (first | rfl | simp)) rfl (fun b11 => ?_))
            refine JL.loud rfl (l_storeAll hT rfl rfl rfl (by (first | rfl | assumption | (simp; done) | omega)) (by (first | assumption | exact ones_of rfl | exact encW_one _ | exact encB_one _ | (intro u hu; simp at hu; rcases hu with rfl | rfl <;> rfl) | (intro u hu; simp at hu; subst hu; rfl) | simp)) (by (repeat (first | exact Pick.head | apply Pick.tail | apply Pick.app))) (by (first | rfl | assumption | (simp; done) | omega)) ?_)
            refine JL.nil ?_
            refine JE.then_normal ?_
            refine J.seq ?_
            refine J.seq ?_
            refine J.region ?_
            refine JL.step (y_move rfl) rfl rfl rfl (JL.step (y_move rfl) rfl rfl rfl ?_)
            refine JL.loud rfl (l_callF e22 rfl rfl (Fc.on (Split.cons (by (repeat (first | exact Pick.head | apply Pick.tail | apply Pick.app))) (Split.cons (by (repeat (first | exact Pick.head | apply Pick.tail | apply Pick.app))) Split.nil)) (cslot _)) ?_)
            rintro _ _ ⟨rfl, rfl⟩
            refine JL.step (y_move rfl) rfl rfl rfl (JL.step (y_extract rfl rfl) rfl rfl rfl (JL.step (y_extract rfl rfl) rfl rfl rfl ?_))
            refine JL.loud rfl (l_alloc hT rfl rfl (by (first | rfl | simp)) rfl (fun b14 => ?_))
            refine JL.loud rfl (l_storeAll hT rfl rfl rfl (by (first | rfl | assumption | (simp; done) | omega)) (by (first | assumption | exact ones_of rfl | exact encW_one _ | exact encB_one _ | (intro u hu; simp at hu; rcases hu with rfl | rfl <;> rfl) | (intro u hu; simp at hu; subst hu; rfl) | simp)) (by (repeat (first | exact Pick.head | apply Pick.tail | apply Pick.app))) (by (first | rfl | assumption | (simp; done) | omega)) ?_)
            refine JL.step (y_assign rfl) rfl rfl rfl ?_
            refine JL.nil ?_
            refine JE.then_normal ?_
            refine J.seq ?_
            refine J.region ?_
            refine JL.step (y_move rfl) rfl rfl rfl (JL.step (y_neq rfl rfl) rfl rfl rfl (JL.step (y_move rfl) rfl rfl rfl ?_))
            all_goals (first | (refine JL.gsplit_dec rfl rfl rfl (fun h => ?_) (fun h => ?_) <;> try (first | (exfalso; omega) | exact absurd rfl h)) | (refine JL.gsplit rfl rfl rfl (fun h => ?_) (fun h => ?_) <;> try (first | cases h | (exfalso; simp at h; done))) | skip)
            all_goals (first | refine JL.gskip rfl rfl rfl rfl rfl rfl ?_ | refine JL.gskipU rfl rfl rfl rfl rfl ?_ | refine JL.gstep rfl rfl rfl (y_loadN hT rfl rfl rfl (by (first | exact RdN.rowAll (by (repeat (first | exact Pick.head | apply Pick.tail | apply Pick.app))) | exact RdN.own (by (repeat (first | exact Pick.head | apply Pick.tail | apply Pick.app))))) (by (first | rfl | assumption | (simp; done) | omega))) rfl rfl ?_)
            all_goals (first | refine JL.gskip rfl rfl rfl rfl rfl rfl ?_ | refine JL.gskipU rfl rfl rfl rfl rfl ?_ | refine JL.gstep rfl rfl rfl (y_loadN hT rfl rfl rfl (by (first | exact RdN.rowAll (by (repeat (first | exact Pick.head | apply Pick.tail | apply Pick.app))) | exact RdN.own (by (repeat (first | exact Pick.head | apply Pick.tail | apply Pick.app))))) (by (first | rfl | assumption | (simp; done) | omega))) rfl rfl ?_)
            all_goals (first | refine JL.gskip rfl rfl rfl rfl rfl rfl ?_ | refine JL.gstep rfl rfl rfl (y_arr_ne (xs := X) (ys := X) hT rfl rfl rfl rfl rfl rfl rfl hX64 hX64) rfl rfl ?_)
            all_goals (refine JL.step (y_pick rfl rfl rfl) rfl rfl rfl ?_)
            all_goals refine JL.nil ?_
            all_goals refine JE.then_normal ?_
            all_goals
              refine J.cond_f rfl (by (first | rfl | assumption | (simp; done) | (simp; omega))) ?_
              refine J.skip ?_
            all_goals refine JE.then_normal ?_
            all_goals
              refine J.region ?_
              refine JL.step (y_move rfl) rfl rfl rfl ?_
              refine JL.step (y_add rfl rfl (by (first | exact wrap_i64 (by omega) (by omega) | rfl))) rfl rfl rfl ?_
              refine JL.step (y_assign rfl) rfl rfl rfl ?_
              refine JL.nil ?_
            all_goals refine JE.block_normal ?_
            all_goals refine JE.then_normal ?_
            all_goals
              refine J.region ?_
              refine JL.step (y_add rfl rfl (by (first | exact wrap_i64 (by omega) (by omega) | rfl))) rfl rfl rfl ?_
              refine JL.step (y_move rfl) rfl rfl rfl ?_
              refine JL.nil ?_
          all_goals
            exact JE.round (s := j) (j + 1) (by omega) ⟨rfl, rfl, by rw [show ((L.used : Int) + ((j + 1 : Nat) : Int)) = (L.used : Int) + j + 1 by omega]; rfl, rfl, rfl, rfl, rfl, rfl, rfl, rfl, trivial⟩ (fun w q => q.sup (by (repeat (first | exact Sup.refl | apply Sup.cons (by (repeat (first | exact Pick.head | apply Pick.tail | apply Pick.app))) | apply Sup.app | apply Sup.skip | apply Sup.skips)))) (by omega)
end
section
open Go.ChangeShapes Go.WideShapes Go.ChangeAt Go.RowKit
theorem tr_one {H : Type} {enc : TypeId × Value → H} {P : Program} {w : World} {ok : DataW H → Prop} {t e : TypeId} {cs : List Value} (ht : P.underlying t = some (.slice e)) (h : Tr enc P ok w t cs) : ∃ v, cs = [v] := by
  obtain ⟨fuel, x, h, _⟩ := h
  rcases DataW.trod_slice ht h with h | h
  · exact ⟨_, h.1⟩
  · obtain ⟨_, _, _, _, _, _, _, h, _⟩ := h
    exact ⟨_, h⟩
set_option maxRecDepth 100000 in
theorem tr_snaps {H : Type} {enc : TypeId × Value → H} {w : World} {ok : DataW H → Prop} {L : Nat → Prop} {v : Value} (her : Her ok L) (h : Tr enc prog ok w 34 [v]) :
    ∃ (p : Option Addr) (cap : Nat) (xs : List Sn), v = .slice p xs.length cap ∧ (∀ x ∈ xs, L x.2.2.length ∧ Bytes x.2.2 ∧ InW w x.1 x.2.2.length x.2.1 (ints .u8 x.2.2)) ∧ InW w p xs.length cap (xs.map snV) := by
  obtain ⟨p, cap, xs, h1, hL, hk, h2⟩ := Tr.slice (encA := fun x : Sn => [snV x]) (okA := fun x : Sn => L x.2.2.length ∧ Bytes x.2.2 ∧ InW w x.1 x.2.2.length x.2.1 (ints .u8 x.2.2)) (k := 1) her u34 (by kernel_rfl) (by decide) (fun _ _ => rfl) (fun cs hc => by
    obtain ⟨v, rfl⟩ := tr_one u36 hc
    obtain ⟨p, cap, bs, rfl, hl, hb, hi⟩ := tr_bytesR her hc
    exact ⟨(p, cap, bs), rfl, hl, hb, hi⟩) h
  have e := flatMap_one snV xs
  exact ⟨p, cap, xs, h1, hk, by rw [← e]; exact h2⟩
theorem wal_lays_reads : ∀ t ∈ Try.f4.params.toList, Try.prog.readableRec t = true ∧ t < Try.prog.types.size := by
  rw [Try.params4]
  intro t ht
  simp only [List.mem_cons, List.not_mem_nil, or_false] at ht
  rcases ht with rfl | rfl
  all_goals exact ⟨by kernel_rfl, of_decide_eq_true (by kernel_rfl)⟩
set_option maxRecDepth 100000 in
theorem wal_lays_contract (H : Type) (enc : TypeId × Value → H) (W : World) (base : Nat) (args : Array Value) (ds gs : List (DataW H)) (before : List MemPlace)
    (hval : ∀ (j : Nat) t v, Try.f4.params[j]? = some t → args[j]? = some v → Value.okWide Try.prog W .any base t v)
    (hW : DataW.Whole enc Try.prog Try.f4.params.toList Rows.walLaysSpec.vars false W args.toList ds gs before) :
    Calls Try.prog 4 args W fun e W' => ∃ v, e = .returned v ∧ Rows.walLaysSpec.post enc Try.prog Try.f4 false true false false W args v W' := by
  have hW' := hW
  obtain ⟨p, q, hA0, hV, rfl, hfz, hnd⟩ := hW
  have hA : DataW.TrodAll enc Try.prog W 0 (fun _ => true) true Try.f4.params.toList args.toList ds p := hA0
  rw [Try.params4] at hA hval
  obtain ⟨v0, vs0, d0, ds0, p0, q0, hargs, rfl, rfl, h0, r0⟩ := trodAll_cons hA
  obtain ⟨v1, vs1, d1, ds1, p1, q1, rfl, rfl, rfl, h1, r1⟩ := trodAll_cons r0
  obtain ⟨rfl, rfl, rfl⟩ := trodAll_nil r1
  obtain rfl : args = #[v0, v1] := by cases args; simp_all
  obtain ⟨rfl, rfl⟩ := trodVars_none hV
  clear hA0
  have t0 : Tr enc prog (fun _ => True) W 3 [v0] := Tr.ofInt u3 (hval 0 3 v0 rfl rfl) h0 trivial
  have t1 : Tr enc prog (fun _ => True) W 34 [v1] := Tr.ofSlice u34 (hval 1 34 v1 rfl rfl) h1 trivial
  obtain ⟨n, e0, hn⟩ := Tr.int u3 t0
  cases e0
  obtain ⟨p, c, xs, rfl, hx, hin⟩ := tr_snaps Her.all t1
  refine ((wal_lays W n p c xs [old W] (hin.inl []) (fun x h => ⟨(hx x h).2.2.inl [], (hx x h).2.1⟩)) W (Sat.start W)).mono fun e W' hq => ?_
  obtain ⟨v, l', rfl, hs, rfl, rfl⟩ := hq
  exact ⟨_, rfl, law_post laidOut_ rfl rfl u4 wal_lays_reads hW' rfl rfl rfl hs.below⟩
set_option maxRecDepth 100000 in
theorem wal_lays_lifted (os : Os) (started : os.Started) (H : Type) (enc : TypeId × Value → H) :
    ReturnsInHanded {} Try.checked os 4 .any (Rows.walLaysSpec.pre6 enc Try.prog Try.f4 Rows.walLaysRow.domain false) (Rows.walLaysSpec.post enc Try.prog Try.f4 false true false false) := by
  refine returnsInHanded_of_change (C := Try.checked) own_ started (by kernel_rfl) Try.func4
    (ChangeSpec.witness6 (enc := enc) (C := Try.checked) false ⟨#[], #[.int .i64 0, .slice none 0 0], []⟩ 8 (by kernel_rfl) (by kernel_rfl) (by kernel_rfl) (by kernel_rfl)) ?_
  intro W base args ds gs before hval hW _ _
  exact wal_lays_contract H enc W base args ds gs before hval hW
theorem wal_lays_holds : Rows.WalLaysSaid :=
  OpenClaim.holds_of_wide 4 Try.f4 rfl rfl rfl rfl rfl rfl rfl ⟨rfl, rfl, rfl, rfl, rfl⟩ rfl rfl rfl rfl rfl (by kernel_rfl) Try.func4 (by kernel_rfl)
    (of_decide_eq_true (by kernel_rfl)) (by unfold Func.isWrapper; first | (rw [if_pos (by decide +kernel)]; kernel_rfl) | (rw [if_neg (by decide +kernel)]; exact ⟨rfl, rfl⟩))
    (fun os started H enc _ => wal_lays_lifted os started H enc)
end
end Go.Proofs.Ytmgagkpokmaefaa
