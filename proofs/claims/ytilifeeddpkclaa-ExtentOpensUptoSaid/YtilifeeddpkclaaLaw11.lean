import Derived.Test.YtilifeeddpkclaaExt7
namespace Go.Proofs.Ytilifeeddpkclaa
open Go Go.SL
attribute [local irreducible] J JL JE JM LS Y Fc RV Code.wp wpList Code.wpIn wpListIn
attribute [local irreducible] Yc
variable (E : World)
/-- A snapshot that is taken, on a disk that does what it is told. -/
theorem take_up (st d : Nat) (s : Sb) (D D' : Dk) (p : Option Addr) (cap : Nat) (bs : List Int) (l : List HProp) (hh : s.hash.length = 16) (h2 : 2 ≤ D.safe.length) (hpl : s.place = 0 ∨ s.place = 1) (hpn : D.pending.length ≤ 100000) (hin : InL l p bs.length cap (ints .u8 bs)) (ht : takeS s D bs = (nextS s bs, D', 0)) :
    Fc prog E 45 [.pointer (some ⟨st, 0, none⟩), .slice p bs.length cap].toArray (row st 125 (scells s d) :: disk d D :: l)
      (fun v l' => v = .int .i64 0 ∧ l' = row st 125 (scells (nextS s bs) d) :: disk d D' :: l) := by
  have h := stake_spec E st d s D p cap bs l hh h2 hpl hpn hin
  rwa [ht] at h
theorem snapshot_ok (st d : Nat) (s : Sb) (D : Dk) (bs : List Int) (l : List HProp) (hf : Fits s D) (hdead : D.dead = false) (hpn : D.pending.length ≤ 1000000) (hb : snapS s D = bs) (hl : s.size.toNat = bs.length) (hs : (sha bs).take 16 = s.hash) :
    Fc prog E 50 [.pointer (some ⟨st, 0, none⟩)].toArray (row st 125 (scells s d) :: disk d D :: l)
      (fun v l' => ∃ a c, v = .tuple #[.slice a bs.length c, .int .i64 0] ∧ l' = own 5 1 (.slice a bs.length c) bs.length (ints .u8 bs) :: row st 125 (scells s d) :: disk d D :: l) :=
  (snapshot_spec E st d s D l hf hdead hpn).mono fun v l' h => by
    rw [hb, if_pos hs, hl] at h
    exact h
theorem wakes11_spec (l : List HProp) : Fc prog E 37 [].toArray l (fun v l' => v = .bool true ∧ l' = l) := by
  refine Fc.eqs ?_
  have hu0 : Up (Dk.new 64) := new_up (by decide) (by decide)
  obtain ⟨hu1, hl1, hp1⟩ := formatted_up hu0 (by decide)
  obtain ⟨D1, hD1⟩ : ∃ D1, (Dk.new 64).formatted = D1 := ⟨_, rfl⟩
  rw [hD1] at hu1 hl1 hp1
  have hl1' : D1.safe.length = 64 := hl1.trans (by simp [Dk.new])
  have hhalf : D1.half = 15 := by simp [Dk.half, hl1']
  obtain ⟨D2, hD2, hT2⟩ := takeS_up (s := sb0) (bs := [1, 2, 3]) hu1 (by omega) (.inl rfl) (by simp [hhalf])
  have hfit := hT2.fits (by omega) (.inl rfl) (by simp [hhalf])
  have hsn := snapS_taken hT2 (by omega) (.inl rfl) (by simp [hhalf])
  have hl2 : D2.safe.length = 64 := hT2.len.trans hl1'
  have hslots : D2.slots = 32 := by simp [Dk.slots, Dk.half, hl2]
  obtain ⟨nx, hnx⟩ : ∃ nx, nextS sb0 [1, 2, 3] = nx := ⟨_, rfl⟩
  have hnt : Q nx.turn = .int .u64 1 := by rw [← hnx]; rfl
  have hnz : nx.size.toNat = ([1, 2, 3] : List Int).length := by rw [← hnx]; rfl
  have hnh : (sha [1, 2, 3]).take 16 = nx.hash := by rw [← hnx]; rfl
  rw [hnx] at hfit hsn
  have hnh16 := hfit.hash
  have hfmt : ∀ d l, Fc prog E 38 [.pointer (some ⟨d, 0, none⟩)].toArray (disk d (Dk.new 64) :: l) (fun v l' => ∃ st, v = .tuple #[.pointer (some ⟨st, 0, none⟩), .int .i64 0] ∧ l' = row st 125 (scells sb0 d) :: disk d D1 :: l) := fun d l => by
    have h := format_good E d (Dk.new 64) l (by simp [Dk.new]) rfl rfl (by simp [Dk.new])
    rwa [hD1] at h
  have htake : ∀ st d l p cap, InL l p 3 cap (ints .u8 [1, 2, 3]) → Fc prog E 45 [.pointer (some ⟨st, 0, none⟩), .slice p 3 cap].toArray (row st 125 (scells sb0 d) :: disk d D1 :: l) (fun v l' => v = .int .i64 0 ∧ l' = row st 125 (scells nx d) :: disk d D2 :: l) := fun st d l p cap h => by
    have q := take_up E st d sb0 D1 D2 p cap [1, 2, 3] l sb0_hash (by omega) (.inl rfl) (by rw [hp1]; simp) h hD2
    rwa [hnx] at q
  have hsnap : ∀ st d l, Fc prog E 50 [.pointer (some ⟨st, 0, none⟩)].toArray (row st 125 (scells nx d) :: disk d D2 :: l)
      (fun v l' => ∃ a c, v = .tuple #[.slice a 3 c, .int .i64 0] ∧ l' = own 5 1 (.slice a 3 c) 3 (ints .u8 [1, 2, 3]) :: row st 125 (scells nx d) :: disk d D2 :: l) := fun st d l =>
    snapshot_ok E st d nx D2 [1, 2, 3] l hfit hT2.up.dead (by rw [hT2.none]; simp) hsn hnz hnh
  have hturn : ∀ st d l, Fc prog E 52 [.pointer (some ⟨st, 0, none⟩)].toArray (row st 125 (scells nx d) :: disk d D2 :: l) (fun v l' => v = .int .u64 1 ∧ l' = row st 125 (scells nx d) :: disk d D2 :: l) := fun st d l => by
    have q := turn_spec E st d nx D2 l hnh16
    rwa [hnt] at q
  have hslot : ∀ st d l, Fc prog E 42 [.pointer (some ⟨st, 0, none⟩)].toArray (row st 125 (scells nx d) :: disk d D2 :: l) (fun v l' => v = .int .i64 32 ∧ l' = row st 125 (scells nx d) :: disk d D2 :: l) := fun st d l => by
    have q := slots_spec E st d nx D2 l hnh16 (by omega)
    rwa [hslots] at q
  refine Fc.of_body (c := ?c) Try.func37 ?hb Try.ntmps37 ?hl ?_
  case hb => exact rfl
  case hl => exact rfl
  refine J.seq ?_
  refine J.region ?_
  refine JL.step (y_assign rfl) rfl rfl rfl ?_
  refine JL.nil ?_
  refine JE.then_normal ?_
  refine J.seq ?_
  refine J.region ?_
  refine JL.loud rfl (l_callF e21 rfl rfl (new_good E 64 _ (by decide) (by decide)) ?_)
  rintro _ _ ⟨d, rfl, rfl⟩
  refine JL.step (y_move rfl) rfl rfl rfl (JL.step (y_extract rfl rfl) rfl rfl rfl (JL.step (y_extract rfl rfl) rfl rfl rfl (JL.step (y_assign rfl) rfl rfl rfl (JL.step (y_assign rfl) rfl rfl rfl ?_))))
  refine JL.nil ?_
  refine JE.then_normal ?_
  refine J.seq ?_
  refine J.seq ?_
  refine J.region ?_
  refine JL.step (y_move rfl) rfl rfl rfl (JL.step (y_ptr_eq_nil hT rfl rfl rfl rfl) rfl rfl rfl (JL.step (y_move rfl) rfl rfl rfl ?_))
  all_goals (first | (refine JL.gsplit_dec rfl rfl rfl (fun h => ?_) (fun h => ?_) <;> try (first | (exfalso; omega) | exact absurd rfl h)) | (refine JL.gsplit rfl rfl rfl (fun h => ?_) (fun h => ?_) <;> try (first | cases h | (exfalso; simp at h; done))) | skip)
  all_goals (first | refine JL.gskip rfl rfl rfl rfl rfl rfl ?_ | refine JL.gskipU rfl rfl rfl rfl rfl ?_ | refine JL.gstep rfl rfl rfl (y_move rfl) rfl rfl ?_)
  all_goals (first | refine JL.gskip rfl rfl rfl rfl rfl rfl ?_ | refine JL.gskipU rfl rfl rfl rfl rfl ?_ | refine JL.gstep rfl rfl rfl (y_neq rfl rfl) rfl rfl ?_)
  all_goals (refine JL.step (y_pick rfl rfl rfl) rfl rfl rfl ?_)
  all_goals refine JL.nil ?_
  all_goals refine JE.then_normal ?_
  all_goals
    refine J.cond_f rfl (by (first | rfl | assumption | (simp; done) | (simp; omega))) ?_
    refine J.skip ?_
  all_goals refine JE.then_normal ?_
  all_goals
    refine J.seq ?_
    refine J.region ?_
    refine JL.step (y_move rfl) rfl rfl rfl ?_
    refine JL.loud rfl (l_callF e38 rfl rfl (Fc.on (Split.cons (by (repeat (first | exact Pick.head | apply Pick.tail | apply Pick.app))) Split.nil) (hfmt d _)) ?_)
    rintro _ _ ⟨st, rfl, rfl⟩
    refine JL.step (y_move rfl) rfl rfl rfl (JL.step (y_extract rfl rfl) rfl rfl rfl (JL.step (y_extract rfl rfl) rfl rfl rfl (JL.step (y_assign rfl) rfl rfl rfl (JL.step (y_assign rfl) rfl rfl rfl ?_))))
    refine JL.nil ?_
    refine JE.then_normal ?_
    refine J.seq ?_
    refine J.seq ?_
    refine J.region ?_
    refine JL.step (y_move rfl) rfl rfl rfl (JL.step (y_ptr_eq_nil hT rfl rfl rfl rfl) rfl rfl rfl (JL.step (y_move rfl) rfl rfl rfl ?_))
    all_goals (first | (refine JL.gsplit_dec rfl rfl rfl (fun h => ?_) (fun h => ?_) <;> try (first | (exfalso; omega) | exact absurd rfl h)) | (refine JL.gsplit rfl rfl rfl (fun h => ?_) (fun h => ?_) <;> try (first | cases h | (exfalso; simp at h; done))) | skip)
    all_goals (first | refine JL.gskip rfl rfl rfl rfl rfl rfl ?_ | refine JL.gskipU rfl rfl rfl rfl rfl ?_ | refine JL.gstep rfl rfl rfl (y_move rfl) rfl rfl ?_)
    all_goals (first | refine JL.gskip rfl rfl rfl rfl rfl rfl ?_ | refine JL.gskipU rfl rfl rfl rfl rfl ?_ | refine JL.gstep rfl rfl rfl (y_neq rfl rfl) rfl rfl ?_)
    all_goals (refine JL.step (y_pick rfl rfl rfl) rfl rfl rfl ?_)
    all_goals (refine JL.step (y_move rfl) rfl rfl rfl ?_)
    all_goals (first | (refine JL.gsplit_dec rfl rfl rfl (fun h => ?_) (fun h => ?_) <;> try (first | (exfalso; omega) | exact absurd rfl h)) | (refine JL.gsplit rfl rfl rfl (fun h => ?_) (fun h => ?_) <;> try (first | cases h | (exfalso; simp at h; done))) | skip)
    all_goals (first | refine JL.gskip rfl rfl rfl rfl rfl rfl ?_ | refine JL.gskipU rfl rfl rfl rfl rfl ?_ | refine JL.gstep rfl rfl rfl (y_move rfl) rfl rfl ?_)
    all_goals (first | refine JL.gskip rfl rfl rfl rfl rfl rfl ?_ | refine JL.gskipU rfl rfl rfl rfl rfl ?_ | (refine JL.gloud rfl rfl rfl (l_buildSliceP (cs := ints .u8 [1, 2, 3]) hT rfl rfl rfl rfl rfl rfl rfl (by kernel_rfl) rfl (fun bk => ?_))))
    all_goals (first | refine JL.gskip rfl rfl rfl rfl rfl rfl ?_ | refine JL.gskipU rfl rfl rfl rfl rfl ?_ | (refine JL.gloud rfl rfl rfl (l_callF e45 rfl rfl (Fc.on (Split.cons (by (repeat (first | exact Pick.head | apply Pick.tail | apply Pick.app))) (Split.cons (by (repeat (first | exact Pick.head | apply Pick.tail | apply Pick.app))) Split.nil)) (htake st d _ _ _ (InL.ofRow (by (repeat (first | exact Pick.head | apply Pick.tail | apply Pick.app))) (by decide)))) ?_); rintro _ _ ⟨rfl, rfl⟩))
    all_goals (first | refine JL.gskip rfl rfl rfl rfl rfl rfl ?_ | refine JL.gskipU rfl rfl rfl rfl rfl ?_ | refine JL.gstep rfl rfl rfl (y_neq rfl rfl) rfl rfl ?_)
    all_goals (refine JL.step (y_pick rfl rfl rfl) rfl rfl rfl ?_)
    all_goals refine JL.nil ?_
    all_goals refine JE.then_normal ?_
    all_goals
      refine J.cond_f rfl (by (first | rfl | assumption | (simp; done) | (simp; omega))) ?_
      refine J.skip ?_
    all_goals refine JE.then_normal ?_
    all_goals
      refine J.seq ?_
      refine J.region ?_
      refine JL.step (y_move rfl) rfl rfl rfl ?_
      refine JL.loud rfl (l_callF e50 rfl rfl (Fc.on (Split.cons (by (repeat (first | exact Pick.head | apply Pick.tail | apply Pick.app))) (Split.cons (by (repeat (first | exact Pick.head | apply Pick.tail | apply Pick.app))) Split.nil)) (hsnap st d _)) ?_)
      rintro _ _ ⟨a, c, rfl, rfl⟩
      refine JL.step (y_move rfl) rfl rfl rfl (JL.step (y_extract rfl rfl) rfl rfl rfl (JL.step (y_extract rfl rfl) rfl rfl rfl (JL.step (y_assign rfl) rfl rfl rfl (JL.step (y_assign rfl) rfl rfl rfl ?_))))
      refine JL.nil ?_
      refine JE.then_normal ?_
      refine J.seq ?_
      refine J.region ?_
      refine JL.step (y_move rfl) rfl rfl rfl (JL.step (y_eql rfl rfl) rfl rfl rfl (JL.step (y_move rfl) rfl rfl rfl ?_))
      all_goals (first | (refine JL.gsplit_dec rfl rfl rfl (fun h => ?_) (fun h => ?_) <;> try (first | (exfalso; omega) | exact absurd rfl h)) | (refine JL.gsplit rfl rfl rfl (fun h => ?_) (fun h => ?_) <;> try (first | cases h | (exfalso; simp at h; done))) | skip)
      all_goals (first | refine JL.gskip rfl rfl rfl rfl rfl rfl ?_ | refine JL.gskipU rfl rfl rfl rfl rfl ?_ | refine JL.gstep rfl rfl rfl (y_move rfl) rfl rfl ?_)
      all_goals (first | refine JL.gskip rfl rfl rfl rfl rfl rfl ?_ | refine JL.gskipU rfl rfl rfl rfl rfl ?_ | refine JL.gstep rfl rfl rfl (y_len_slice hT rfl rfl rfl) rfl rfl ?_)
      all_goals (first | refine JL.gskip rfl rfl rfl rfl rfl rfl ?_ | refine JL.gskipU rfl rfl rfl rfl rfl ?_ | refine JL.gstep rfl rfl rfl (y_eql rfl rfl) rfl rfl ?_)
      all_goals (refine JL.step (y_pick rfl rfl rfl) rfl rfl rfl ?_)
      all_goals (refine JL.step (y_move rfl) rfl rfl rfl ?_)
      all_goals (first | (refine JL.gsplit_dec rfl rfl rfl (fun h => ?_) (fun h => ?_) <;> try (first | (exfalso; omega) | exact absurd rfl h)) | (refine JL.gsplit rfl rfl rfl (fun h => ?_) (fun h => ?_) <;> try (first | cases h | (exfalso; simp at h; done))) | skip)
      all_goals (first | refine JL.gskip rfl rfl rfl rfl rfl rfl ?_ | refine JL.gskipU rfl rfl rfl rfl rfl ?_ | refine JL.gstep rfl rfl rfl (y_move rfl) rfl rfl ?_)
      all_goals (first | refine JL.gskip rfl rfl rfl rfl rfl rfl ?_ | refine JL.gskipU rfl rfl rfl rfl rfl ?_ | (refine JL.gloud rfl rfl rfl (l_callF e52 rfl rfl (Fc.on (Split.cons (by (repeat (first | exact Pick.head | apply Pick.tail | apply Pick.app))) (Split.cons (by (repeat (first | exact Pick.head | apply Pick.tail | apply Pick.app))) Split.nil)) (hturn st d _)) ?_); rintro _ _ ⟨rfl, rfl⟩))
      all_goals (first | refine JL.gskip rfl rfl rfl rfl rfl rfl ?_ | refine JL.gskipU rfl rfl rfl rfl rfl ?_ | refine JL.gstep rfl rfl rfl (y_eql rfl rfl) rfl rfl ?_)
      all_goals (refine JL.step (y_pick rfl rfl rfl) rfl rfl rfl ?_)
      all_goals (refine JL.step (y_move rfl) rfl rfl rfl ?_)
      all_goals (first | (refine JL.gsplit_dec rfl rfl rfl (fun h => ?_) (fun h => ?_) <;> try (first | (exfalso; omega) | exact absurd rfl h)) | (refine JL.gsplit rfl rfl rfl (fun h => ?_) (fun h => ?_) <;> try (first | cases h | (exfalso; simp at h; done))) | skip)
      all_goals (first | refine JL.gskip rfl rfl rfl rfl rfl rfl ?_ | refine JL.gskipU rfl rfl rfl rfl rfl ?_ | refine JL.gstep rfl rfl rfl (y_move rfl) rfl rfl ?_)
      all_goals (first | refine JL.gskip rfl rfl rfl rfl rfl rfl ?_ | refine JL.gskipU rfl rfl rfl rfl rfl ?_ | (refine JL.gloud rfl rfl rfl (l_callF e42 rfl rfl (Fc.on (Split.cons (by (repeat (first | exact Pick.head | apply Pick.tail | apply Pick.app))) (Split.cons (by (repeat (first | exact Pick.head | apply Pick.tail | apply Pick.app))) Split.nil)) (hslot st d _)) ?_); rintro _ _ ⟨rfl, rfl⟩))
      all_goals (first | refine JL.gskip rfl rfl rfl rfl rfl rfl ?_ | refine JL.gskipU rfl rfl rfl rfl rfl ?_ | refine JL.gstep rfl rfl rfl (y_eql rfl rfl) rfl rfl ?_)
      all_goals (refine JL.step (y_pick rfl rfl rfl) rfl rfl rfl ?_)
      all_goals (refine JL.step (y_assign rfl) rfl rfl rfl ?_)
      all_goals refine JL.nil ?_
      all_goals refine JE.then_normal ?_
      all_goals
        refine J.ret ?_
        refine JE.ret1 (.inl rfl) rfl rfl (by (first | exact RV.tmp rfl | exact RV.cell1 hT rfl rfl rfl (by (exact Rd1.row (by (repeat (first | exact Pick.head | apply Pick.tail | apply Pick.app))) (by rfl))) | exact RV.cellN hT rfl rfl rfl (by (first | exact RdN.rowAll (by (repeat (first | exact Pick.head | apply Pick.tail | apply Pick.app))) | exact RdN.own (by (repeat (first | exact Pick.head | apply Pick.tail | apply Pick.app))))) (by (first | rfl | assumption | (simp; done) | omega)))) ?_
        exact ⟨rfl, fun w q => q.sup (by (repeat (first | exact Sup.refl | apply Sup.cons (by (repeat (first | exact Pick.head | apply Pick.tail | apply Pick.app))) | apply Sup.app | apply Sup.skip | apply Sup.skips)))⟩
end Go.Proofs.Ytilifeeddpkclaa
