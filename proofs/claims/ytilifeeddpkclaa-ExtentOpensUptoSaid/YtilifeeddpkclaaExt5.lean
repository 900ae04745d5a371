import Derived.Test.YtilifeeddpkclaaExt4
namespace Go.Proofs.Ytilifeeddpkclaa
open Go Go.SL
/-- A piece of a snapshot, its end filled with noughts. -/
def chunk (bs : List Int) (i : Nat) : Blk := (bs.drop (64 * i)).take 64 ++ List.replicate (64 - ((bs.drop (64 * i)).take 64).length) 0
theorem chunk_length (bs : List Int) (i : Nat) : (chunk bs i).length = 64 := by simp [chunk]; omega
/-- The pieces written, up to the first error. -/
def takeW (base : Int) (bs : List Int) (D : Dk) : Nat → Dk × Int
  | 0 => (D, 0)
  | k + 1 => if (takeW base bs D k).2 = 0 then (takeW base bs D k).1.write (base + k) (chunk bs k) else takeW base bs D k
theorem takeW_stop {base : Int} {bs : List Int} {D : Dk} {k : Nat} (h : (takeW base bs D k).2 ≠ 0) : ∀ m, takeW base bs D (k + m) = takeW base bs D k
  | 0 => rfl
  | m + 1 => by rw [← Nat.add_assoc, takeW, takeW_stop h m, if_neg h]
theorem write_len (D : Dk) (i : Int) (b : Blk) : (D.write i b).1.safe.length = D.safe.length ∧ (D.write i b).1.pending.length ≤ D.pending.length + 1 := by
  unfold Dk.write
  split
  · exact ⟨rfl, Nat.le_succ _⟩
  · split
    · exact ⟨rfl, Nat.le_succ _⟩
    · exact ⟨rfl, by simp [Dk.push, Dk.does]⟩
theorem sync_len (D : Dk) : D.sync.1.safe.length = D.safe.length ∧ D.sync.1.pending.length ≤ D.pending.length := by
  unfold Dk.sync
  split
  · exact ⟨rfl, Nat.le_refl _⟩
  · split
    · exact ⟨rfl, Nat.le_refl _⟩
    · exact ⟨by simp [Dk.settle, liveOn_length, Dk.does], Nat.zero_le _⟩
theorem takeW_len (base : Int) (bs : List Int) (D : Dk) : ∀ k, (takeW base bs D k).1.safe.length = D.safe.length ∧ (takeW base bs D k).1.pending.length ≤ D.pending.length + k
  | 0 => ⟨rfl, Nat.le_refl _⟩
  | k + 1 => by
    have h := takeW_len base bs D k
    rw [takeW]
    split
    · have h2 := write_len (takeW base bs D k).1 (base + k) (chunk bs k)
      exact ⟨h2.1.trans h.1, by omega⟩
    · exact ⟨h.1, by omega⟩
def nextS (s : Sb) (bs : List Int) : Sb := ⟨1 - s.place, s.turn + 1#64, bs.length, (sha bs).take 16⟩
theorem nextS_hash (s : Sb) (bs : List Int) : (nextS s bs).hash.length = 16 := by simp [nextS, sha_length]
/-- What a snapshot's taking does. -/
def takeS (s : Sb) (D : Dk) (bs : List Int) : Sb × Dk × Int :=
  if 64 * D.half < bs.length then (s, D, 3) else
  let w := takeW (2 + (nextS s bs).place * D.half) bs D ((bs.length + 63) / 64)
  if w.2 = 0 then
    if w.1.sync.2 = 0 then
      let v := w.1.sync.1.write (((nextS s bs).turn.toNat % 2 : Nat) : Int) (sbBlock (nextS s bs))
      if v.2 = 0 then
        if v.1.sync.2 = 0 then (nextS s bs, v.1.sync.1, 0) else (s, v.1.sync.1, v.1.sync.2)
      else (s, v.1, v.2)
    else (s, w.1.sync.1, w.1.sync.2)
  else (s, w.1, w.2)
attribute [local irreducible] J JL JE JM LS Y Fc RV Code.wp wpList Code.wpIn wpListIn
attribute [local irreducible] Yc
variable (E : World)
theorem stake_spec (st d : Nat) (s : Sb) (D : Dk) (p : Option Addr) (cap : Nat) (bs : List Int) (l : List HProp) (hh : s.hash.length = 16) (h2 : 2 ≤ D.safe.length) (hpl : s.place = 0 ∨ s.place = 1) (hpn : D.pending.length ≤ 100000) (hin : InL l p bs.length cap (ints .u8 bs)) :
    Fc prog E 45 [.pointer (some ⟨st, 0, none⟩), .slice p bs.length cap].toArray (row st 125 (scells s d) :: disk d D :: l)
      (fun v l' => v = .int .i64 (takeS s D bs).2.2 ∧ l' = row st 125 (scells (takeS s D bs).1 d) :: disk d (takeS s D bs).2.1 :: l) := by
  refine Fc.fact (p := D.Ok) (fun w q => (disk_open (q.pick (Pick.tail Pick.head))).elim fun _ ⟨_, _, _, h, _⟩ => h) fun hok => Fc.eqs ?_
  have hm := hok.most
  have hd := scells_disk (d := d) hh
  have hbl : (ints .u8 bs).length = bs.length := by simp [ints]
  have hhalf : 4 * D.half ≤ 510 := by unfold Dk.half; omega
  obtain ⟨nx, hnx⟩ : ∃ nx, nextS s bs = nx := ⟨_, rfl⟩
  have hnh : nx.hash.length = 16 := by rw [← hnx]; exact nextS_hash s bs
  have hnp : nx.place = 1 - s.place := by rw [← hnx]; rfl
  have hn1 := encS_one nx
  have hn19 : (encS nx).length = 19 := by simp [encS, ints, hnh]
  have hs16 : (ints .u8 ((sha bs).take 16)).length = 16 := by simp [ints, sha_length]
  have hne : encS nx = .int .i64 (1 - s.place) :: Q (s.turn + 1#64) :: .int .i64 (bs.length : Int) :: ints .u8 ((sha bs).take 16) := by rw [← hnx]; rfl
  refine Fc.of_body (c := ?c) Try.func45 ?hb Try.ntmps45 ?hl ?_
  case hb => exact rfl
  case hl => exact rfl
  refine J.seq ?_
  refine J.region ?_
  refine JL.step (y_assign rfl) rfl rfl rfl ?_
  refine JL.nil ?_
  refine JE.then_normal ?_
  refine J.seq ?_
  refine J.block ?_
  refine J.seq ?_
  refine J.region ?_
  refine JL.step (y_move rfl) rfl rfl rfl (JL.step (y_ptr_eq_nil hT rfl rfl rfl rfl) rfl rfl rfl (JL.step (y_assign rfl) rfl rfl rfl ?_))
  refine JL.nil ?_
  refine JE.then_normal ?_
  refine J.cond_f rfl (by (first | rfl | assumption | (simp; done) | (simp; omega))) ?_
  refine J.seq ?_
  refine J.region ?_
  refine JL.step (y_move rfl) rfl rfl rfl (JL.step (y_len_slice hT rfl rfl rfl) rfl rfl rfl (JL.step (y_move rfl) rfl rfl rfl ?_))
  refine JL.loud rfl (l_callF e44 rfl rfl (Fc.on (Split.cons (by (repeat (first | exact Pick.head | apply Pick.tail | apply Pick.app))) (Split.cons (by (repeat (first | exact Pick.head | apply Pick.tail | apply Pick.app))) Split.nil)) (room_spec E st d s D _ hh h2)) ?_)
  rintro _ _ ⟨rfl, rfl⟩
  refine JL.step (y_gtr rfl rfl) rfl rfl rfl (JL.step (y_assign rfl) rfl rfl rfl ?_)
  refine JL.nil ?_
  refine JE.then_normal ?_
  first | apply J.cond_dec rfl | apply J.cond rfl
  case' ht =>
    intro h
    try (first | (exfalso; omega) | (cases h; done) | (exfalso; simp at h; done) | subst h)
    all_goals
      refine J.seq ?_
      refine J.region ?_
      refine JL.step (y_assign rfl) rfl rfl rfl ?_
      refine JL.nil ?_
      refine JE.then_normal ?_
      refine J.ret ?_
      refine JE.block_ret ?_
      refine JE.then_ret ?_
      refine JE.ret1 (.inl rfl) rfl rfl (by (first | exact RV.tmp rfl | exact RV.cell1 hT rfl rfl rfl (by (exact Rd1.row (by (repeat (first | exact Pick.head | apply Pick.tail | apply Pick.app))) (by rfl))) | exact RV.cellN hT rfl rfl rfl (by (first | exact RdN.rowAll (by (repeat (first | exact Pick.head | apply Pick.tail | apply Pick.app))) | exact RdN.own (by (repeat (first | exact Pick.head | apply Pick.tail | apply Pick.app))))) (by (first | rfl | assumption | (simp; done) | omega)))) ?_
      first
        | (rw [show takeS s D bs = (s, D, 3) by rw [takeS, if_pos (by omega)]]; exact ⟨rfl, fun w q => q.sup (by (repeat (first | exact Sup.refl | apply Sup.cons (by (repeat (first | exact Pick.head | apply Pick.tail | apply Pick.app))) | apply Sup.app | apply Sup.skip | apply Sup.skips)))⟩)
        | (have ht : takeS s D bs = (s, (takeW base bs D (k + 1)).1, (takeW base bs D (k + 1)).2) := by
             have hst := takeW_stop (base := base) (bs := bs) (D := D) (k := k + 1) h (n - (k + 1))
             rw [show k + 1 + (n - (k + 1)) = n by omega] at hst
             unfold takeS
             rw [if_neg (by omega), hnx, hbase, hn]
             dsimp only
             rw [hst, if_neg h]
           rw [ht]
           exact ⟨rfl, fun w q => q.sup (by (repeat (first | exact Sup.refl | apply Sup.cons (by (repeat (first | exact Pick.head | apply Pick.tail | apply Pick.app))) | apply Sup.app | apply Sup.skip | apply Sup.skips)))⟩)
        | (rw [if_neg h]; exact ⟨rfl, fun w q => q.sup (by (repeat (first | exact Sup.refl | apply Sup.cons (by (repeat (first | exact Pick.head | apply Pick.tail | apply Pick.app))) | apply Sup.app | apply Sup.skip | apply Sup.skips)))⟩)
        | (rw [if_pos (by omega)]; dsimp only; rw [if_neg h]; exact ⟨rfl, fun w q => q.sup (by (repeat (first | exact Sup.refl | apply Sup.cons (by (repeat (first | exact Pick.head | apply Pick.tail | apply Pick.app))) | apply Sup.app | apply Sup.skip | apply Sup.skips)))⟩)
        | (rw [if_pos (by omega)]; dsimp only; rw [if_pos (by omega), if_neg h]; exact ⟨rfl, fun w q => q.sup (by (repeat (first | exact Sup.refl | apply Sup.cons (by (repeat (first | exact Pick.head | apply Pick.tail | apply Pick.app))) | apply Sup.app | apply Sup.skip | apply Sup.skips)))⟩)
        | (rw [if_pos (by omega)]; dsimp only; rw [if_pos (by omega), if_pos (by omega)]; exact ⟨rfl, fun w q => q.sup (by (repeat (first | exact Sup.refl | apply Sup.cons (by (repeat (first | exact Pick.head | apply Pick.tail | apply Pick.app))) | apply Sup.app | apply Sup.skip | apply Sup.skips)))⟩)
  case' hf =>
    intro h
    try (first | (exfalso; omega) | (cases h; done) | (exfalso; simp at h; done) | subst h)
    all_goals
      refine J.skip ?_
  all_goals refine JE.block_normal ?_
  all_goals refine JE.then_normal ?_
  all_goals
    refine J.seq ?_
    refine J.draw _ _ [(0, .q), (1, .q), (2, .q), (3, .q), (4, .q), (5, .q), (6, .q), (7, .q), (8, .q), (9, .q), (10, .q), (11, .q), (12, .q), (13, .q), (14, .q), (15, .q), (16, .q), (17, .n), (18, .l)] mixed (by kernel_rfl) (Split.nil) ?_
    refine JM.quiet rfl rfl rfl rfl (fun m => y_move rfl) ?_
    refine JM.quiet rfl rfl rfl rfl (fun m => (by first | exact y_nilCheck rfl | exact y_nilCheckF rfl | exact y_nilCheckY rfl)) ?_
    refine JM.quiet rfl rfl rfl rfl (fun m => y_fieldAddr hT rfl rfl rfl rfl rfl rfl) ?_
    refine JM.quiet rfl rfl rfl rfl (fun m => y_fieldAddr hT rfl rfl rfl rfl rfl rfl) ?_
    refine JM.quiet rfl rfl rfl rfl (fun m => y_load1 hT rfl rfl rfl (by (exact Rd1.row (Pick.app m (by (repeat (first | exact Pick.head | apply Pick.tail | apply Pick.app)))) (by rfl)))) ?_
    refine JM.quiet rfl rfl rfl rfl (fun m => y_sub (m := 1 - s.place) rfl rfl (wrap_i64 (by omega) (by omega))) ?_
    refine JM.quiet rfl rfl rfl rfl (fun m => y_move rfl) ?_
    refine JM.quiet rfl rfl rfl rfl (fun m => (by first | exact y_nilCheck rfl | exact y_nilCheckF rfl | exact y_nilCheckY rfl)) ?_
    refine JM.quiet rfl rfl rfl rfl (fun m => y_fieldAddr hT rfl rfl rfl rfl rfl rfl) ?_
    refine JM.quiet rfl rfl rfl rfl (fun m => y_fieldAddr hT rfl rfl rfl rfl rfl rfl) ?_
    refine JM.quiet rfl rfl rfl rfl (fun m => y_load1 hT rfl rfl rfl (by (exact Rd1.row (Pick.app m (by (repeat (first | exact Pick.head | apply Pick.tail | apply Pick.app)))) (by rfl)))) ?_
    refine JM.quiet rfl rfl rfl rfl (fun m => y_addQ (b := 1#64) rfl rfl) ?_
    refine JM.quiet rfl rfl rfl rfl (fun m => y_move rfl) ?_
    refine JM.quiet rfl rfl rfl rfl (fun m => y_len_slice hT rfl rfl rfl) ?_
    refine JM.quiet rfl rfl rfl rfl (fun m => y_move rfl) ?_
    refine JM.quiet rfl rfl rfl rfl (fun m => y_callF e70 rfl (short_spec E p cap bs _ (by (repeat (first | assumption | apply InL.cons | apply InL.app))) (by omega))) ?_
    refine JM.quiet rfl rfl rfl rfl (fun m => y_build (cs := encS nx) hT rfl rfl rfl rfl rfl rfl ⟨⟨rfl, Nat.le_of_ble_eq_true rfl⟩, ⟨rfl, Nat.le_of_ble_eq_true rfl⟩, ⟨rfl, Nat.le_of_ble_eq_true rfl⟩, ⟨hs16, Nat.le_of_ble_eq_true rfl⟩, trivial⟩ (by rw [hne]; simp [fillE, Q_cells, int_cells, agg_cells, ints, i3, i78, i119])) ?_
    refine JM.lay rfl rfl rfl rfl (fun a hf => lays_alloc hT rfl rfl (by (first | rfl | simp))) (fun b5 => ?_)
    refine JM.loud rfl rfl (fun fr => l_storeAll hT rfl rfl rfl (by (first | rfl | assumption | (simp; done) | omega)) (by (first | assumption | exact ones_of rfl | exact encW_one _ | exact encB_one _ | (intro u hu; simp at hu; rcases hu with rfl | rfl <;> rfl) | (intro u hu; simp at hu; subst hu; rfl) | simp)) (by (repeat (first | exact Pick.head | apply Pick.tail | apply Pick.app))) (by (first | rfl | assumption | (simp; done) | omega)) (⟨[_], (by (repeat (first | exact Split.nil | exact Split.all | refine Split.cons Pick.head ?_))), ?_⟩))
    refine JM.nil ?_
    refine JE.then_normal ?_
    refine J.seq ?_
    refine J.seq ?_
    refine J.region ?_
    refine JL.step (y_assign rfl) rfl rfl rfl ?_
    refine JL.nil ?_
    refine JE.then_normal ?_
    refine J.block ?_
    have hlen : bs.length ≤ 64 * D.half := by omega
    have hpm : 0 ≤ nx.place * (D.half : Int) ∧ nx.place * (D.half : Int) ≤ 127 := by
      rw [hnp]
      rcases hpl with e | e <;> rw [e]
      · rw [show (1 - 0 : Int) = 1 by rfl, Int.one_mul]; omega
      · rw [show (1 - 1 : Int) = 0 by rfl, Int.zero_mul]; omega
    obtain ⟨base, hbase⟩ : ∃ base, 2 + nx.place * (D.half : Int) = base := ⟨_, rfl⟩
    obtain ⟨n, hn⟩ : ∃ n, (bs.length + 63) / 64 = n := ⟨_, rfl⟩
    have hwk : ∀ k, k ≤ n → (takeW base bs D k).1.safe.length = D.safe.length ∧ (takeW base bs D k).1.pending.length ≤ 101000 := fun k hk => by
      have := takeW_len base bs D k
      exact ⟨this.1, by omega⟩
    refine J.loop (α := Nat) (fun k => k ≤ n ∧ (takeW base bs D k).2 = 0) (fun k => [(0, .pointer (some ⟨st, 0, none⟩)), (1, .slice p bs.length cap), (5, .pointer (some ⟨b5, 0, none⟩)), (6, .int .i64 k)]) (fun k => row b5 122 (encS nx) :: row st 125 (scells s d) :: disk d (takeW base bs D k).1 :: l) (fun k => n - k) 0 ⟨by omega, rfl⟩ ⟨rfl, rfl, rfl, rfl, trivial⟩ (fun w h => h.sup (by (repeat (first | exact Sup.refl | apply Sup.cons (by (repeat (first | exact Pick.head | apply Pick.tail | apply Pick.app))) | apply Sup.app | apply Sup.skip | apply Sup.skips)))) ?_
    intro k ⟨hk, hk0⟩
    have hkl := hwk k hk
    have hhk : (takeW base bs D k).1.half = D.half := by unfold Dk.half; rw [hkl.1]
    have hk1 : takeW base bs D (k + 1) = (takeW base bs D k).1.write (base + k) (chunk bs k) := by rw [takeW, if_pos hk0]
    have hwr : ∀ l, Fc prog E 47 [Value.pointer (some ⟨d, 0, none⟩), .int .i64 (base + k), .agg (encB (chunk bs k)).toArray].toArray (disk d (takeW base bs D k).1 :: l) (fun v l' => v = .int .i64 (takeW base bs D (k + 1)).2 ∧ l' = disk d (takeW base bs D (k + 1)).1 :: l) := fun l => by
      have q := write_spec E d (takeW base bs D k).1 (base + k) (chunk bs k) (chunk_length _ _) l (by omega)
      rwa [← hk1] at q
    have hhc : ∀ l, Fc prog E 73 [.pointer (some ⟨d, 0, none⟩)].toArray (disk d (takeW base bs D k).1 :: l) (fun v l' => v = .int .i64 (D.half : Int) ∧ l' = disk d (takeW base bs D k).1 :: l) := fun l => by
      have q := h_spec E d (takeW base bs D k).1 l (by omega)
      rwa [hhk] at q
    have hckl : (encB (chunk bs k)).length = 64 := (encB_length _).trans (chunk_length _ _)
    refine J.seq ?_
    refine J.seq ?_
    refine J.region ?_
    refine JL.step (y_move rfl) rfl rfl rfl ?_
    refine JL.step (y_mul rfl rfl (by (first | exact wrap_i64 (by omega) (by omega) | rfl))) rfl rfl rfl ?_
    refine JL.step (y_move rfl) rfl rfl rfl (JL.step (y_len_slice hT rfl rfl rfl) rfl rfl rfl (JL.step (y_lss rfl rfl) rfl rfl rfl ?_))
    refine JL.nil ?_
    refine JE.then_normal ?_
    first | apply J.cond_dec rfl | apply J.cond rfl
    case' ht =>
      intro h
      try (first | (exfalso; omega) | (cases h; done) | (exfalso; simp at h; done) | subst h)
      all_goals
        refine J.skip ?_
    case' hf =>
      intro h
      try (first | (exfalso; omega) | (cases h; done) | (exfalso; simp at h; done) | subst h)
      all_goals
        refine J.exit ?_
        refine JE.then_exit ?_
        refine JE.then_exit ?_
        refine JE.block_exit ?_
        refine JE.then_normal ?_
        refine J.seq ?_
        refine J.seq ?_
        have hkn : k = n := by omega
        obtain ⟨Wd, hWd⟩ : ∃ Wd, (takeW base bs D n).1 = Wd := ⟨_, rfl⟩
        have hWe : (takeW base bs D n).2 = 0 := by rw [← hkn]; exact hk0
        have hWl := hwk n (Nat.le_refl _)
        rw [hWd] at hWl
        rw [hkn, hWd]
        have hsl1 := sync_len Wd
        have htk : takeS s D bs = if Wd.sync.2 = 0 then (let v := Wd.sync.1.write ((nx.turn.toNat % 2 : Nat) : Int) (sbBlock nx); if v.2 = 0 then if v.1.sync.2 = 0 then (nx, v.1.sync.1, 0) else (s, v.1.sync.1, v.1.sync.2) else (s, v.1, v.2)) else (s, Wd.sync.1, Wd.sync.2) := by
          unfold takeS
          rw [if_neg (by omega), hnx, hbase, hn]
          dsimp only
          rw [if_pos hWe, hWd]
        rw [htk]
        obtain ⟨Y, hY⟩ : ∃ Y, Wd.sync.1 = Y := ⟨_, rfl⟩
        obtain ⟨V, hV⟩ : ∃ V, Y.write ((nx.turn.toNat % 2 : Nat) : Int) (sbBlock nx) = V := ⟨_, rfl⟩
        have hwl2 := write_len Y ((nx.turn.toNat % 2 : Nat) : Int) (sbBlock nx)
        rw [hV] at hwl2
        rw [hY, hV]
        rw [hY] at hsl1
        have hc1 : ∀ l, Fc prog E 32 [Value.pointer (some ⟨d, 0, none⟩)].toArray (disk d Wd :: l) (fun v l' => v = .int .i64 Wd.sync.2 ∧ l' = disk d Y :: l) := fun l => by
          have q := sync_spec E d Wd l (by omega)
          rwa [hY] at q
        have hc2 : ∀ l, Fc prog E 47 [Value.pointer (some ⟨d, 0, none⟩), .int .i64 ((nx.turn.toNat % 2 : Nat) : Int), .agg (encB (sbBlock nx)).toArray].toArray (disk d Y :: l) (fun v l' => v = .int .i64 V.2 ∧ l' = disk d V.1 :: l) := fun l => by
          have q := write_spec E d Y ((nx.turn.toNat % 2 : Nat) : Int) (sbBlock nx) (sbBlock_length hnh) l (by omega)
          rwa [hV] at q
        refine J.region ?_
        refine JL.step (y_move rfl) rfl rfl rfl ?_
        refine JL.step ((by first | exact y_nilCheck rfl | exact y_nilCheckF rfl | exact y_nilCheckY rfl)) rfl rfl rfl ?_
        refine JL.step (y_fieldAddr hT rfl rfl rfl rfl rfl rfl) rfl rfl rfl ?_
        refine JL.step (y_load1 hT rfl rfl rfl (Rd1.row (by (repeat (first | exact Pick.head | apply Pick.tail | apply Pick.app))) hd)) rfl rfl rfl ?_
        refine JL.loud rfl (l_callF e32 rfl rfl (Fc.on (Split.cons (by (repeat (first | exact Pick.head | apply Pick.tail | apply Pick.app))) Split.nil) (hc1 _)) ?_)
        rintro _ _ ⟨rfl, rfl⟩
        refine JL.step (y_assign rfl) rfl rfl rfl ?_
        refine JL.nil ?_
        refine JE.then_normal ?_
        refine J.seq ?_
        refine J.region ?_
        refine JL.step (y_move rfl) rfl rfl rfl (JL.step (y_neq rfl rfl) rfl rfl rfl ?_)
        refine JL.nil ?_
        refine JE.then_normal ?_
        first | apply J.cond_dec rfl | apply J.cond rfl
        case' ht =>
          intro h
          try (first | (exfalso; omega) | (cases h; done) | (exfalso; simp at h; done) | subst h)
          all_goals
            refine J.seq ?_
            refine J.region ?_
            refine JL.step (y_move rfl) rfl rfl rfl (JL.step (y_assign rfl) rfl rfl rfl ?_)
            refine JL.nil ?_
            refine JE.then_normal ?_
            refine J.ret ?_
            refine JE.then_ret ?_
            refine JE.ret1 (.inl rfl) rfl rfl (by (first | exact RV.tmp rfl | exact RV.cell1 hT rfl rfl rfl (by (exact Rd1.row (by (repeat (first | exact Pick.head | apply Pick.tail | apply Pick.app))) (by rfl))) | exact RV.cellN hT rfl rfl rfl (by (first | exact RdN.rowAll (by (repeat (first | exact Pick.head | apply Pick.tail | apply Pick.app))) | exact RdN.own (by (repeat (first | exact Pick.head | apply Pick.tail | apply Pick.app))))) (by (first | rfl | assumption | (simp; done) | omega)))) ?_
            first
              | (rw [show takeS s D bs = (s, D, 3) by rw [takeS, if_pos (by omega)]]; exact ⟨rfl, fun w q => q.sup (by (repeat (first | exact Sup.refl | apply Sup.cons (by (repeat (first | exact Pick.head | apply Pick.tail | apply Pick.app))) | apply Sup.app | apply Sup.skip | apply Sup.skips)))⟩)
              | (have ht : takeS s D bs = (s, (takeW base bs D (k + 1)).1, (takeW base bs D (k + 1)).2) := by
                   have hst := takeW_stop (base := base) (bs := bs) (D := D) (k := k + 1) h (n - (k + 1))
                   rw [show k + 1 + (n - (k + 1)) = n by omega] at hst
                   unfold takeS
                   rw [if_neg (by omega), hnx, hbase, hn]
                   dsimp only
                   rw [hst, if_neg h]
                 rw [ht]
                 exact ⟨rfl, fun w q => q.sup (by (repeat (first | exact Sup.refl | apply Sup.cons (by (repeat (first | exact Pick.head | apply Pick.tail | apply Pick.app))) | apply Sup.app | apply Sup.skip | apply Sup.skips)))⟩)
              | (rw [if_neg h]; exact ⟨rfl, fun w q => q.sup (by (repeat (first | exact Sup.refl | apply Sup.cons (by (repeat (first | exact Pick.head | apply Pick.tail | apply Pick.app))) | apply Sup.app | apply Sup.skip | apply Sup.skips)))⟩)
              | (rw [if_pos (by omega)]; dsimp only; rw [if_neg h]; exact ⟨rfl, fun w q => q.sup (by (repeat (first | exact Sup.refl | apply Sup.cons (by (repeat (first | exact Pick.head | apply Pick.tail | apply Pick.app))) | apply Sup.app | apply Sup.skip | apply Sup.skips)))⟩)
              | (rw [if_pos (by omega)]; dsimp only; rw [if_pos (by omega), if_neg h]; exact ⟨rfl, fun w q => q.sup (by (repeat (first | exact Sup.refl | apply Sup.cons (by (repeat (first | exact Pick.head | apply Pick.tail | apply Pick.app))) | apply Sup.app | apply Sup.skip | apply Sup.skips)))⟩)
              | (rw [if_pos (by omega)]; dsimp only; rw [if_pos (by omega), if_pos (by omega)]; exact ⟨rfl, fun w q => q.sup (by (repeat (first | exact Sup.refl | apply Sup.cons (by (repeat (first | exact Pick.head | apply Pick.tail | apply Pick.app))) | apply Sup.app | apply Sup.skip | apply Sup.skips)))⟩)
        case' hf =>
          intro h
          try (first | (exfalso; omega) | (cases h; done) | (exfalso; simp at h; done) | subst h)
          all_goals
            refine J.skip ?_
        all_goals refine JE.then_normal ?_
        all_goals
          refine J.seq ?_
          refine J.seq ?_
          refine J.draw _ _ [(0, .q), (1, .q), (2, .q), (3, .q), (4, .q), (5, .q), (6, .q), (7, .q), (8, .q), (9, .q), (10, .l), (11, .q)] mixed (by kernel_rfl) (Split.cons (Pick.head) (Split.nil)) ?_
          refine JM.quiet rfl rfl rfl rfl (fun m => y_move rfl) ?_
          refine JM.quiet rfl rfl rfl rfl (fun m => (by first | exact y_nilCheck rfl | exact y_nilCheckF rfl | exact y_nilCheckY rfl)) ?_
          refine JM.quiet rfl rfl rfl rfl (fun m => y_fieldAddr hT rfl rfl rfl rfl rfl rfl) ?_
          refine JM.quiet rfl rfl rfl rfl (fun m => y_load1 hT rfl rfl rfl (Rd1.row (Pick.app m (by (repeat (first | exact Pick.head | apply Pick.tail | apply Pick.app)))) hd)) ?_
          refine JM.quiet rfl rfl rfl rfl (fun m => y_fieldAddr hT rfl rfl rfl rfl rfl rfl) ?_
          refine JM.quiet rfl rfl rfl rfl (fun m => y_load1 hT rfl rfl rfl (by (exact Rd1.row (Pick.app m (by (repeat (first | exact Pick.head | apply Pick.tail | apply Pick.app)))) (by rfl)))) ?_
          refine JM.quiet rfl rfl rfl rfl (fun m => y_rem (m := ((nx.turn.toNat % 2 : Nat) : Int)) (i := (nx.turn.toNat : Int)) (k := .u64) rfl rfl (by decide) (by rw [Int.tmod_eq_emod_of_nonneg (by omega)]; omega)) ?_
          refine JM.quiet rfl rfl rfl rfl (fun m => y_conv hT rfl rfl rfl rfl (wrap_i64 (by omega) (by omega))) ?_
          refine JM.quiet rfl rfl rfl rfl (fun m => y_loadN hT rfl rfl rfl (by (first | exact RdN.rowAll (Pick.app m (by (repeat (first | exact Pick.head | apply Pick.tail | apply Pick.app)))) | exact RdN.own (Pick.app m (by (repeat (first | exact Pick.head | apply Pick.tail | apply Pick.app)))))) (by (first | rfl | assumption | (simp; done) | omega))) ?_
          refine JM.quiet rfl rfl rfl rfl (fun m => y_callF e71 rfl (block_super_spec E nx _ hnh)) ?_
          refine JM.loud rfl rfl (fun fr => l_callF e47 rfl rfl (Fc.on (Split.cons (by (repeat (first | exact Pick.head | apply Pick.tail | apply Pick.app))) Split.nil) (hc2 _)) ?_)
          rintro _ _ ⟨rfl, rfl⟩
          refine ⟨[_], (by (repeat (first | exact Split.nil | exact Split.all | refine Split.cons Pick.head ?_))), ?_⟩
          refine JM.quiet rfl rfl rfl rfl (fun m => y_assign rfl) ?_
          refine JM.nil ?_
          refine JE.then_normal ?_
          refine J.seq ?_
          refine J.region ?_
          refine JL.step (y_move rfl) rfl rfl rfl (JL.step (y_neq rfl rfl) rfl rfl rfl ?_)
          refine JL.nil ?_
          refine JE.then_normal ?_
          first | apply J.cond_dec rfl | apply J.cond rfl
          case' ht =>
            intro h
            try (first | (exfalso; omega) | (cases h; done) | (exfalso; simp at h; done) | subst h)
            all_goals
              refine J.seq ?_
              refine J.region ?_
              refine JL.step (y_move rfl) rfl rfl rfl (JL.step (y_assign rfl) rfl rfl rfl ?_)
              refine JL.nil ?_
              refine JE.then_normal ?_
              refine J.ret ?_
              refine JE.then_ret ?_
              refine JE.ret1 (.inl rfl) rfl rfl (by (first | exact RV.tmp rfl | exact RV.cell1 hT rfl rfl rfl (by (exact Rd1.row (by (repeat (first | exact Pick.head | apply Pick.tail | apply Pick.app))) (by rfl))) | exact RV.cellN hT rfl rfl rfl (by (first | exact RdN.rowAll (by (repeat (first | exact Pick.head | apply Pick.tail | apply Pick.app))) | exact RdN.own (by (repeat (first | exact Pick.head | apply Pick.tail | apply Pick.app))))) (by (first | rfl | assumption | (simp; done) | omega)))) ?_
              first
                | (rw [show takeS s D bs = (s, D, 3) by rw [takeS, if_pos (by omega)]]; exact ⟨rfl, fun w q => q.sup (by (repeat (first | exact Sup.refl | apply Sup.cons (by (repeat (first | exact Pick.head | apply Pick.tail | apply Pick.app))) | apply Sup.app | apply Sup.skip | apply Sup.skips)))⟩)
                | (have ht : takeS s D bs = (s, (takeW base bs D (k + 1)).1, (takeW base bs D (k + 1)).2) := by
                     have hst := takeW_stop (base := base) (bs := bs) (D := D) (k := k + 1) h (n - (k + 1))
                     rw [show k + 1 + (n - (k + 1)) = n by omega] at hst
                     unfold takeS
                     rw [if_neg (by omega), hnx, hbase, hn]
                     dsimp only
                     rw [hst, if_neg h]
                   rw [ht]
                   exact ⟨rfl, fun w q => q.sup (by (repeat (first | exact Sup.refl | apply Sup.cons (by (repeat (first | exact Pick.head | apply Pick.tail | apply Pick.app))) | apply Sup.app | apply Sup.skip | apply Sup.skips)))⟩)
                | (rw [if_neg h]; exact ⟨rfl, fun w q => q.sup (by (repeat (first | exact Sup.refl | apply Sup.cons (by (repeat (first | exact Pick.head | apply Pick.tail | apply Pick.app))) | apply Sup.app | apply Sup.skip | apply Sup.skips)))⟩)
                | (rw [if_pos (by omega)]; dsimp only; rw [if_neg h]; exact ⟨rfl, fun w q => q.sup (by (repeat (first | exact Sup.refl | apply Sup.cons (by (repeat (first | exact Pick.head | apply Pick.tail | apply Pick.app))) | apply Sup.app | apply Sup.skip | apply Sup.skips)))⟩)
                | (rw [if_pos (by omega)]; dsimp only; rw [if_pos (by omega), if_neg h]; exact ⟨rfl, fun w q => q.sup (by (repeat (first | exact Sup.refl | apply Sup.cons (by (repeat (first | exact Pick.head | apply Pick.tail | apply Pick.app))) | apply Sup.app | apply Sup.skip | apply Sup.skips)))⟩)
                | (rw [if_pos (by omega)]; dsimp only; rw [if_pos (by omega), if_pos (by omega)]; exact ⟨rfl, fun w q => q.sup (by (repeat (first | exact Sup.refl | apply Sup.cons (by (repeat (first | exact Pick.head | apply Pick.tail | apply Pick.app))) | apply Sup.app | apply Sup.skip | apply Sup.skips)))⟩)
          case' hf =>
            intro h
            try (first | (exfalso; omega) | (cases h; done) | (exfalso; simp at h; done) | subst h)
            all_goals
              refine J.skip ?_
          all_goals refine JE.then_normal ?_
          all_goals
            refine J.seq ?_
            refine J.seq ?_
            refine J.region ?_
            refine JL.step (y_move rfl) rfl rfl rfl ?_
            refine JL.step ((by first | exact y_nilCheck rfl | exact y_nilCheckF rfl | exact y_nilCheckY rfl)) rfl rfl rfl ?_
            refine JL.step (y_fieldAddr hT rfl rfl rfl rfl rfl rfl) rfl rfl rfl ?_
            refine JL.step (y_load1 hT rfl rfl rfl (Rd1.row (by (repeat (first | exact Pick.head | apply Pick.tail | apply Pick.app))) hd)) rfl rfl rfl ?_
            refine JL.loud rfl (l_callF e32 rfl rfl (Fc.on (Split.cons (by (repeat (first | exact Pick.head | apply Pick.tail | apply Pick.app))) Split.nil) (sync_spec E d V.1 _ (by omega))) ?_)
            rintro _ _ ⟨rfl, rfl⟩
            refine JL.step (y_assign rfl) rfl rfl rfl ?_
            refine JL.nil ?_
            refine JE.then_normal ?_
            refine J.seq ?_
            refine J.region ?_
            refine JL.step (y_move rfl) rfl rfl rfl (JL.step (y_neq rfl rfl) rfl rfl rfl ?_)
            refine JL.nil ?_
            refine JE.then_normal ?_
            first | apply J.cond_dec rfl | apply J.cond rfl
            case' ht =>
              intro h
              try (first | (exfalso; omega) | (cases h; done) | (exfalso; simp at h; done) | subst h)
              all_goals
                refine J.seq ?_
                refine J.region ?_
                refine JL.step (y_move rfl) rfl rfl rfl (JL.step (y_assign rfl) rfl rfl rfl ?_)
                refine JL.nil ?_
                refine JE.then_normal ?_
                refine J.ret ?_
                refine JE.then_ret ?_
                refine JE.ret1 (.inl rfl) rfl rfl (by (first | exact RV.tmp rfl | exact RV.cell1 hT rfl rfl rfl (by (exact Rd1.row (by (repeat (first | exact Pick.head | apply Pick.tail | apply Pick.app))) (by rfl))) | exact RV.cellN hT rfl rfl rfl (by (first | exact RdN.rowAll (by (repeat (first | exact Pick.head | apply Pick.tail | apply Pick.app))) | exact RdN.own (by (repeat (first | exact Pick.head | apply Pick.tail | apply Pick.app))))) (by (first | rfl | assumption | (simp; done) | omega)))) ?_
                first
                  | (rw [show takeS s D bs = (s, D, 3) by rw [takeS, if_pos (by omega)]]; exact ⟨rfl, fun w q => q.sup (by (repeat (first | exact Sup.refl | apply Sup.cons (by (repeat (first | exact Pick.head | apply Pick.tail | apply Pick.app))) | apply Sup.app | apply Sup.skip | apply Sup.skips)))⟩)
                  | (have ht : takeS s D bs = (s, (takeW base bs D (k + 1)).1, (takeW base bs D (k + 1)).2) := by
                       have hst := takeW_stop (base := base) (bs := bs) (D := D) (k := k + 1) h (n - (k + 1))
                       rw [show k + 1 + (n - (k + 1)) = n by omega] at hst
                       unfold takeS
                       rw [if_neg (by omega), hnx, hbase, hn]
                       dsimp only
                       rw [hst, if_neg h]
                     rw [ht]
                     exact ⟨rfl, fun w q => q.sup (by (repeat (first | exact Sup.refl | apply Sup.cons (by (repeat (first | exact Pick.head | apply Pick.tail | apply Pick.app))) | apply Sup.app | apply Sup.skip | apply Sup.skips)))⟩)
                  | (rw [if_neg h]; exact ⟨rfl, fun w q => q.sup (by (repeat (first | exact Sup.refl | apply Sup.cons (by (repeat (first | exact Pick.head | apply Pick.tail | apply Pick.app))) | apply Sup.app | apply Sup.skip | apply Sup.skips)))⟩)
                  | (rw [if_pos (by omega)]; dsimp only; rw [if_neg h]; exact ⟨rfl, fun w q => q.sup (by (repeat (first | exact Sup.refl | apply Sup.cons (by (repeat (first | exact Pick.head | apply Pick.tail | apply Pick.app))) | apply Sup.app | apply Sup.skip | apply Sup.skips)))⟩)
                  | (rw [if_pos (by omega)]; dsimp only; rw [if_pos (by omega), if_neg h]; exact ⟨rfl, fun w q => q.sup (by (repeat (first | exact Sup.refl | apply Sup.cons (by (repeat (first | exact Pick.head | apply Pick.tail | apply Pick.app))) | apply Sup.app | apply Sup.skip | apply Sup.skips)))⟩)
                  | (rw [if_pos (by omega)]; dsimp only; rw [if_pos (by omega), if_pos (by omega)]; exact ⟨rfl, fun w q => q.sup (by (repeat (first | exact Sup.refl | apply Sup.cons (by (repeat (first | exact Pick.head | apply Pick.tail | apply Pick.app))) | apply Sup.app | apply Sup.skip | apply Sup.skips)))⟩)
            case' hf =>
              intro h
              try (first | (exfalso; omega) | (cases h; done) | (exfalso; simp at h; done) | subst h)
              all_goals
                refine J.skip ?_
            all_goals refine JE.then_normal ?_
            all_goals
              refine J.seq ?_
              refine J.region ?_
              refine JL.step (y_move rfl) rfl rfl rfl ?_
              refine JL.step (y_loadN hT rfl rfl rfl (by (first | exact RdN.rowAll (by (repeat (first | exact Pick.head | apply Pick.tail | apply Pick.app))) | exact RdN.own (by (repeat (first | exact Pick.head | apply Pick.tail | apply Pick.app))))) (by (first | rfl | assumption | (simp; done) | omega))) rfl rfl rfl ?_
              refine JL.step ((by first | exact y_nilCheck rfl | exact y_nilCheckF rfl | exact y_nilCheckY rfl)) rfl rfl rfl ?_
              refine JL.step (y_fieldAddr hT rfl rfl rfl rfl rfl rfl) rfl rfl rfl ?_
              refine JL.loud rfl (l_storeN (off := 0) hT rfl rfl rfl hn19 hn1 (by (repeat (first | exact Pick.head | apply Pick.tail | apply Pick.app))) (by rw [scells_length hh, hn19]; decide) ?_)
              have hsc : (scells s d).take 0 ++ encS nx ++ (scells s d).drop (0 + (encS nx).length) = scells nx d := by
                have e19 : (encS s).length = 19 := by simp [encS, ints, hh]
                rw [hn19, List.take_zero, List.nil_append, scells, List.drop_append_of_le_length (by omega), List.drop_of_length_le (by omega)]
                rfl
              rw [hsc]
              refine JL.nil ?_
              refine JE.then_normal ?_
              refine J.seq ?_
              refine J.region ?_
              refine JL.step (y_assign rfl) rfl rfl rfl ?_
              refine JL.nil ?_
              refine JE.then_normal ?_
              refine J.ret ?_
              refine JE.ret1 (.inl rfl) rfl rfl (by (first | exact RV.tmp rfl | exact RV.cell1 hT rfl rfl rfl (by (exact Rd1.row (by (repeat (first | exact Pick.head | apply Pick.tail | apply Pick.app))) (by rfl))) | exact RV.cellN hT rfl rfl rfl (by (first | exact RdN.rowAll (by (repeat (first | exact Pick.head | apply Pick.tail | apply Pick.app))) | exact RdN.own (by (repeat (first | exact Pick.head | apply Pick.tail | apply Pick.app))))) (by (first | rfl | assumption | (simp; done) | omega)))) ?_
              first
                | (rw [show takeS s D bs = (s, D, 3) by rw [takeS, if_pos (by omega)]]; exact ⟨rfl, fun w q => q.sup (by (repeat (first | exact Sup.refl | apply Sup.cons (by (repeat (first | exact Pick.head | apply Pick.tail | apply Pick.app))) | apply Sup.app | apply Sup.skip | apply Sup.skips)))⟩)
                | (have ht : takeS s D bs = (s, (takeW base bs D (k + 1)).1, (takeW base bs D (k + 1)).2) := by
                     have hst := takeW_stop (base := base) (bs := bs) (D := D) (k := k + 1) h (n - (k + 1))
                     rw [show k + 1 + (n - (k + 1)) = n by omega] at hst
                     unfold takeS
                     rw [if_neg (by omega), hnx, hbase, hn]
                     dsimp only
                     rw [hst, if_neg h]
                   rw [ht]
                   exact ⟨rfl, fun w q => q.sup (by (repeat (first | exact Sup.refl | apply Sup.cons (by (repeat (first | exact Pick.head | apply Pick.tail | apply Pick.app))) | apply Sup.app | apply Sup.skip | apply Sup.skips)))⟩)
                | (rw [if_neg h]; exact ⟨rfl, fun w q => q.sup (by (repeat (first | exact Sup.refl | apply Sup.cons (by (repeat (first | exact Pick.head | apply Pick.tail | apply Pick.app))) | apply Sup.app | apply Sup.skip | apply Sup.skips)))⟩)
                | (rw [if_pos (by omega)]; dsimp only; rw [if_neg h]; exact ⟨rfl, fun w q => q.sup (by (repeat (first | exact Sup.refl | apply Sup.cons (by (repeat (first | exact Pick.head | apply Pick.tail | apply Pick.app))) | apply Sup.app | apply Sup.skip | apply Sup.skips)))⟩)
                | (rw [if_pos (by omega)]; dsimp only; rw [if_pos (by omega), if_neg h]; exact ⟨rfl, fun w q => q.sup (by (repeat (first | exact Sup.refl | apply Sup.cons (by (repeat (first | exact Pick.head | apply Pick.tail | apply Pick.app))) | apply Sup.app | apply Sup.skip | apply Sup.skips)))⟩)
                | (rw [if_pos (by omega)]; dsimp only; rw [if_pos (by omega), if_pos (by omega)]; exact ⟨rfl, fun w q => q.sup (by (repeat (first | exact Sup.refl | apply Sup.cons (by (repeat (first | exact Pick.head | apply Pick.tail | apply Pick.app))) | apply Sup.app | apply Sup.skip | apply Sup.skips)))⟩)
    all_goals refine JE.then_normal ?_
    all_goals
      refine J.seq ?_
      refine J.block ?_
      refine J.seq ?_
      refine J.region ?_
      refine JL.loud rfl (l_alloc hT rfl rfl (by (first | rfl | simp)) rfl (fun b7 => ?_))
      refine JL.nil ?_
      refine JE.then_normal ?_
      refine J.seq ?_
      obtain ⟨g0, o0, hp0, hin1⟩ := hin.part (lo := 64 * k) (hi := bs.length) (k := 1) (by omega) (Nat.le_refl _) (by omega)
      have hsrc : ((ints .u8 bs).drop (64 * k * 1)).take ((bs.length - 64 * k) * 1) = ints .u8 (bs.drop (64 * k)) := by
        rw [Nat.mul_one, Nat.mul_one, List.take_of_length_le (by simp [ints])]
        simp [ints]
      rw [hsrc] at hin1
      refine J.draw _ _ [(0, .q), (1, .q), (2, .q), (3, .q), (4, .q), (5, .l)] mixed (by kernel_rfl) (Split.cons (Pick.head) (Split.nil)) ?_
      refine JM.quiet rfl rfl rfl rfl (fun m => y_slice_arr hT rfl rfl rfl rfl (.inl ⟨rfl, rfl⟩) (.inl ⟨rfl, rfl⟩) (by (first | omega | exact Nat.le_of_ble_eq_true rfl | decide | (simp; omega))) (by (first | omega | exact Nat.le_of_ble_eq_true rfl | decide | (simp; omega)))) ?_
      refine JM.quiet rfl rfl rfl rfl (fun m => y_move rfl) ?_
      refine JM.quiet rfl rfl rfl rfl (fun m => y_move rfl) ?_
      refine JM.quiet rfl rfl rfl rfl (fun m => y_mul rfl rfl (by (first | exact wrap_i64 (by omega) (by omega) | rfl))) ?_
      refine JM.quiet rfl rfl rfl rfl (fun m => y_slice (lo := 64 * k) (hi := bs.length) hT rfl rfl rfl rfl (.inr ⟨_, _, _, rfl, rfl, by omega⟩) (.inl ⟨rfl, rfl⟩) (by omega) hin.le hin.le hp0) ?_
      refine JM.loud rfl rfl (fun fr => l_copy (sLen := bs.length - 64 * k) (dLen := 64) (off := 0) hT rfl rfl rfl rfl rfl rfl (by (repeat (first | exact Pick.head | apply Pick.tail | apply Pick.app))) (by (repeat (first | assumption | apply InL.cons | apply InL.app))) (by simp [ints]) (by simp) (ints_one _ _) rfl ⟨[_], (by (repeat (first | exact Split.nil | exact Split.all | refine Split.cons Pick.head ?_))), ?_⟩)
      refine JM.nil ?_
      refine JE.then_normal ?_
      refine J.seq ?_
      refine J.row_eq (encB (chunk bs k)) (by
        simp only [List.take_zero, List.nil_append, Nat.zero_add, chunk, encB, ints, List.map_append, List.map_take, List.map_drop, List.map_replicate, List.drop_replicate, List.length_take, List.length_drop]
        rw [show min (bs.length - 64 * k) 64 = min 64 (bs.length - 64 * k) from Nat.min_comm _ _]
        congr 1
        by_cases hmn : 64 ≤ bs.length - 64 * k
        · rw [show min 64 (bs.length - 64 * k) = 64 by omega]
        · rw [show min 64 (bs.length - 64 * k) = bs.length - 64 * k by omega, List.take_of_length_le (by simp), List.take_of_length_le (by simp; omega)]) ?_
      refine J.draw _ _ [(0, .q), (1, .q), (2, .q), (3, .q), (4, .q), (5, .q), (6, .q), (7, .q), (8, .q), (9, .q), (13, .q), (15, .q), (10, .l), (11, .q), (12, .q), (14, .q), (16, .l), (17, .q)] mixed (by kernel_rfl) (Split.cons (Pick.tail (Pick.tail (Pick.tail Pick.head))) (Split.nil)) ?_
      refine JM.quiet rfl rfl rfl rfl (fun m => y_move rfl) ?_
      refine JM.quiet rfl rfl rfl rfl (fun m => (by first | exact y_nilCheck rfl | exact y_nilCheckF rfl | exact y_nilCheckY rfl)) ?_
      refine JM.quiet rfl rfl rfl rfl (fun m => y_fieldAddr hT rfl rfl rfl rfl rfl rfl) ?_
      refine JM.quiet rfl rfl rfl rfl (fun m => y_load1 hT rfl rfl rfl (Rd1.row (Pick.app m (by (repeat (first | exact Pick.head | apply Pick.tail | apply Pick.app)))) hd)) ?_
      refine JM.quiet rfl rfl rfl rfl (fun m => y_fieldAddr hT rfl rfl rfl rfl rfl rfl) ?_
      refine JM.quiet rfl rfl rfl rfl (fun m => y_load1 hT rfl rfl rfl (by (exact Rd1.row (Pick.app m (by (repeat (first | exact Pick.head | apply Pick.tail | apply Pick.app)))) (by rfl)))) ?_
      refine JM.quiet rfl rfl rfl rfl (fun m => y_move rfl) ?_
      refine JM.quiet rfl rfl rfl rfl (fun m => (by first | exact y_nilCheck rfl | exact y_nilCheckF rfl | exact y_nilCheckY rfl)) ?_
      refine JM.quiet rfl rfl rfl rfl (fun m => y_fieldAddr hT rfl rfl rfl rfl rfl rfl) ?_
      refine JM.quiet rfl rfl rfl rfl (fun m => y_load1 hT rfl rfl rfl (Rd1.row (Pick.app m (by (repeat (first | exact Pick.head | apply Pick.tail | apply Pick.app)))) hd)) ?_
      refine JM.quiet rfl rfl rfl rfl (fun m => y_move rfl) ?_
      refine JM.quiet rfl rfl rfl rfl (fun m => y_loadN hT rfl rfl rfl (by (first | exact RdN.rowAll (Pick.app m (by (repeat (first | exact Pick.head | apply Pick.tail | apply Pick.app)))) | exact RdN.own (Pick.app m (by (repeat (first | exact Pick.head | apply Pick.tail | apply Pick.app)))))) (by (first | rfl | assumption | (simp; done) | omega))) ?_
      refine JM.loud rfl rfl (fun fr => l_callF e73 rfl rfl (Fc.on (Split.cons (by (repeat (first | exact Pick.head | apply Pick.tail | apply Pick.app))) Split.nil) (hhc _)) ?_)
      rintro _ _ ⟨rfl, rfl⟩
      refine ⟨[_], (by (repeat (first | exact Split.nil | exact Split.all | refine Split.cons Pick.head ?_))), ?_⟩
      refine JM.quiet rfl rfl rfl rfl (fun m => y_mul (m := nx.place * (D.half : Int)) rfl rfl (wrap_i64 (by omega) (by omega))) ?_
      refine JM.quiet rfl rfl rfl rfl (fun m => y_add (m := base) rfl rfl (by rw [hbase]; exact wrap_i64 (by omega) (by omega))) ?_
      refine JM.quiet rfl rfl rfl rfl (fun m => y_add rfl rfl (by (first | exact wrap_i64 (by omega) (by omega) | rfl))) ?_
      refine JM.loud rfl rfl (fun fr => l_callF e47 rfl rfl (Fc.on (Split.cons (by (repeat (first | exact Pick.head | apply Pick.tail | apply Pick.app))) Split.nil) (hwr _)) ?_)
      rintro _ _ ⟨rfl, rfl⟩
      refine ⟨[_], (by (repeat (first | exact Split.nil | exact Split.all | refine Split.cons Pick.head ?_))), ?_⟩
      refine JM.quiet rfl rfl rfl rfl (fun m => y_assign rfl) ?_
      refine JM.nil ?_
      refine JE.then_normal ?_
      refine J.seq ?_
      refine J.region ?_
      refine JL.step (y_move rfl) rfl rfl rfl (JL.step (y_neq rfl rfl) rfl rfl rfl ?_)
      refine JL.nil ?_
      refine JE.then_normal ?_
      first | apply J.cond_dec rfl | apply J.cond rfl
      case' ht =>
        intro h
        try (first | (exfalso; omega) | (cases h; done) | (exfalso; simp at h; done) | subst h)
        all_goals
          refine J.seq ?_
          refine J.region ?_
          refine JL.step (y_move rfl) rfl rfl rfl (JL.step (y_assign rfl) rfl rfl rfl ?_)
          refine JL.nil ?_
          refine JE.then_normal ?_
          refine J.ret ?_
          refine JE.block_ret ?_
          refine JE.then_ret ?_
          refine JE.then_ret ?_
          refine JE.block_ret ?_
          refine JE.then_ret ?_
          refine JE.ret1 (.inl rfl) rfl rfl (by (first | exact RV.tmp rfl | exact RV.cell1 hT rfl rfl rfl (by (exact Rd1.row (by (repeat (first | exact Pick.head | apply Pick.tail | apply Pick.app))) (by rfl))) | exact RV.cellN hT rfl rfl rfl (by (first | exact RdN.rowAll (by (repeat (first | exact Pick.head | apply Pick.tail | apply Pick.app))) | exact RdN.own (by (repeat (first | exact Pick.head | apply Pick.tail | apply Pick.app))))) (by (first | rfl | assumption | (simp; done) | omega)))) ?_
          first
            | (rw [show takeS s D bs = (s, D, 3) by rw [takeS, if_pos (by omega)]]; exact ⟨rfl, fun w q => q.sup (by (repeat (first | exact Sup.refl | apply Sup.cons (by (repeat (first | exact Pick.head | apply Pick.tail | apply Pick.app))) | apply Sup.app | apply Sup.skip | apply Sup.skips)))⟩)
            | (have ht : takeS s D bs = (s, (takeW base bs D (k + 1)).1, (takeW base bs D (k + 1)).2) := by
                 have hst := takeW_stop (base := base) (bs := bs) (D := D) (k := k + 1) h (n - (k + 1))
                 rw [show k + 1 + (n - (k + 1)) = n by omega] at hst
                 unfold takeS
                 rw [if_neg (by omega), hnx, hbase, hn]
                 dsimp only
                 rw [hst, if_neg h]
               rw [ht]
               exact ⟨rfl, fun w q => q.sup (by (repeat (first | exact Sup.refl | apply Sup.cons (by (repeat (first | exact Pick.head | apply Pick.tail | apply Pick.app))) | apply Sup.app | apply Sup.skip | apply Sup.skips)))⟩)
            | (rw [if_neg h]; exact ⟨rfl, fun w q => q.sup (by (repeat (first | exact Sup.refl | apply Sup.cons (by (repeat (first | exact Pick.head | apply Pick.tail | apply Pick.app))) | apply Sup.app | apply Sup.skip | apply Sup.skips)))⟩)
            | (rw [if_pos (by omega)]; dsimp only; rw [if_neg h]; exact ⟨rfl, fun w q => q.sup (by (repeat (first | exact Sup.refl | apply Sup.cons (by (repeat (first | exact Pick.head | apply Pick.tail | apply Pick.app))) | apply Sup.app | apply Sup.skip | apply Sup.skips)))⟩)
            | (rw [if_pos (by omega)]; dsimp only; rw [if_pos (by omega), if_neg h]; exact ⟨rfl, fun w q => q.sup (by (repeat (first | exact Sup.refl | apply Sup.cons (by (repeat (first | exact Pick.head | apply Pick.tail | apply Pick.app))) | apply Sup.app | apply Sup.skip | apply Sup.skips)))⟩)
            | (rw [if_pos (by omega)]; dsimp only; rw [if_pos (by omega), if_pos (by omega)]; exact ⟨rfl, fun w q => q.sup (by (repeat (first | exact Sup.refl | apply Sup.cons (by (repeat (first | exact Pick.head | apply Pick.tail | apply Pick.app))) | apply Sup.app | apply Sup.skip | apply Sup.skips)))⟩)
      case' hf =>
        intro h
        try (first | (exfalso; omega) | (cases h; done) | (exfalso; simp at h; done) | subst h)
        all_goals
          refine J.skip ?_
      all_goals refine JE.block_normal ?_
      all_goals refine JE.then_normal ?_
      all_goals
        refine J.region ?_
        refine JL.step (y_move rfl) rfl rfl rfl ?_
        refine JL.step (y_add rfl rfl (by (first | exact wrap_i64 (by omega) (by omega) | rfl))) rfl rfl rfl ?_
        refine JL.step (y_assign rfl) rfl rfl rfl ?_
        refine JL.nil ?_
    all_goals
      exact JE.round (s := k) (k + 1) ⟨by omega, by omega⟩ ⟨rfl, rfl, rfl, rfl, trivial⟩ (fun w q => q.sup (by (repeat (first | exact Sup.refl | apply Sup.cons (by (repeat (first | exact Pick.head | apply Pick.tail | apply Pick.app))) | apply Sup.app | apply Sup.skip | apply Sup.skips)))) (by omega)
end Go.Proofs.Ytilifeeddpkclaa
