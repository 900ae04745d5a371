import Derived.Test.YtilifeeddpkclaaExt3
namespace Go.Proofs.Ytilifeeddpkclaa
open Go Go.SL
def Dk.slot (D : Dk) (i : Int) : Blk × Int := if (D.slotAt i).2 = 0 then (D.read (D.slotAt i).1, D.ready (D.slotAt i).1) else (zeroB, (D.slotAt i).2)
def Dk.put (D : Dk) (i : Int) (b : Blk) : Dk × Int := if (D.slotAt i).2 = 0 then D.write (D.slotAt i).1 b else (D, (D.slotAt i).2)
attribute [local irreducible] J JL JE JM LS Y Fc RV Code.wp wpList Code.wpIn wpListIn
attribute [local irreducible] Yc
variable (E : World)
section
variable (st d : Nat) (s : Sb) (D : Dk) (l : List HProp) (hh : s.hash.length = 16) (h2 : 2 ≤ D.safe.length) (hpn : D.pending.length ≤ 1000000)
include hh h2 hpn
theorem slot_spec (i : Int) : Fc prog E 41 [.pointer (some ⟨st, 0, none⟩), .int .i64 i].toArray (row st 125 (scells s d) :: disk d D :: l) (fun v l' => v = .tuple #[.agg (encB (D.slot i).1).toArray, .int .i64 (D.slot i).2] ∧ l' = row st 125 (scells s d) :: disk d D :: l) := by
  refine Fc.fact (p := D.Ok) (fun w q => (disk_open (q.pick (Pick.tail Pick.head))).elim fun _ ⟨_, _, _, h, _⟩ => h) fun hok => Fc.eqs ?_
  have hd := scells_disk (d := d) hh
  have hrl : (encB (D.read (D.slotAt i).1)).length = 64 := (encB_length _).trans (hok.readLen _)
  refine Fc.of_body (c := ?c) Try.func41 ?hb Try.ntmps41 ?hl ?_
  case hb => exact rfl
  case hl => exact rfl
  refine J.seq ?_
  refine J.region ?_
  refine JL.loud rfl (l_alloc hT rfl rfl (by (first | rfl | simp)) rfl (fun b1 => ?_))
  refine JL.step (y_assign rfl) rfl rfl rfl ?_
  refine JL.nil ?_
  refine JE.then_normal ?_
  refine J.seq ?_
  refine J.region ?_
  refine JL.step (y_move rfl) rfl rfl rfl (JL.step (y_move rfl) rfl rfl rfl ?_)
  refine JL.loud rfl (l_callF e72 rfl rfl (Fc.on (Split.cons (by (repeat (first | exact Pick.head | apply Pick.tail | apply Pick.app))) (Split.cons (by (repeat (first | exact Pick.head | apply Pick.tail | apply Pick.app))) Split.nil)) (at_spec E st d s D _ hh h2 i)) ?_)
  rintro _ _ ⟨rfl, rfl⟩
  refine JL.step (y_move rfl) rfl rfl rfl (JL.step (y_extract rfl rfl) rfl rfl rfl (JL.step (y_extract rfl rfl) rfl rfl rfl (JL.step (y_assign rfl) rfl rfl rfl (JL.step (y_assign rfl) rfl rfl rfl ?_))))
  refine JL.nil ?_
  refine JE.then_normal ?_
  refine J.seq ?_
  refine J.seq ?_
  refine J.region ?_
  refine JL.step (y_move rfl) rfl rfl rfl (JL.step (y_neq rfl rfl) rfl rfl rfl ?_)
  refine JL.nil ?_
  refine JE.then_normal ?_
  first | apply J.cond_dec rfl | apply J.cond rfl
  case' ht =>
    intro h
    try (first | (exfalso; omega) | (cases h; done) | (exfalso; simp at h; done) | subst h)
    all_goals
      refine J.seq ?_
      refine J.region ?_
      refine JL.step (y_build_arr0 hT rfl rfl rfl rfl) rfl rfl rfl (JL.step (y_move rfl) rfl rfl rfl ?_)
      refine JL.loud rfl (l_storeAll hT rfl rfl rfl (by (first | rfl | assumption | (simp; done) | omega)) (by (first | assumption | exact ones_of rfl | exact encW_one _ | exact encB_one _ | (intro u hu; simp at hu; rcases hu with rfl | rfl <;> rfl) | (intro u hu; simp at hu; subst hu; rfl) | simp)) (by (repeat (first | exact Pick.head | apply Pick.tail | apply Pick.app))) (by (first | rfl | assumption | (simp; done) | omega)) ?_)
      refine JL.step (y_assign rfl) rfl rfl rfl ?_
      refine JL.nil ?_
      refine JE.then_normal ?_
      refine J.ret ?_
      refine JE.then_ret ?_
      refine JE.ret2 (.inl rfl) rfl rfl (by (first | exact RV.tmp rfl | exact RV.cell1 hT rfl rfl rfl (by (exact Rd1.row (by (repeat (first | exact Pick.head | apply Pick.tail | apply Pick.app))) (by rfl))) | exact RV.cellN hT rfl rfl rfl (by (first | exact RdN.rowAll (by (repeat (first | exact Pick.head | apply Pick.tail | apply Pick.app))) | exact RdN.own (by (repeat (first | exact Pick.head | apply Pick.tail | apply Pick.app))))) (by (first | rfl | assumption | (simp; done) | omega)))) (by (first | exact RV.tmp rfl | exact RV.cell1 hT rfl rfl rfl (by (exact Rd1.row (by (repeat (first | exact Pick.head | apply Pick.tail | apply Pick.app))) (by rfl))) | exact RV.cellN hT rfl rfl rfl (by (first | exact RdN.rowAll (by (repeat (first | exact Pick.head | apply Pick.tail | apply Pick.app))) | exact RdN.own (by (repeat (first | exact Pick.head | apply Pick.tail | apply Pick.app))))) (by (first | rfl | assumption | (simp; done) | omega)))) ?_
      refine ⟨?_, fun w q => q.sup (by (repeat (first | exact Sup.refl | apply Sup.cons (by (repeat (first | exact Pick.head | apply Pick.tail | apply Pick.app))) | apply Sup.app | apply Sup.skip | apply Sup.skips)))⟩
      unfold Dk.slot
      first
        | (rw [if_pos (by omega)]; rfl)
        | (rw [if_neg (by omega)]; rfl)
  case' hf =>
    intro h
    try (first | (exfalso; omega) | (cases h; done) | (exfalso; simp at h; done) | subst h)
    all_goals
      refine J.skip ?_
  all_goals refine JE.then_normal ?_
  all_goals
    refine J.seq ?_
    refine J.region ?_
    refine JL.step (y_move rfl) rfl rfl rfl ?_
    refine JL.step ((by first | exact y_nilCheck rfl | exact y_nilCheckF rfl | exact y_nilCheckY rfl)) rfl rfl rfl ?_
    refine JL.step (y_fieldAddr hT rfl rfl rfl rfl rfl rfl) rfl rfl rfl ?_
    refine JL.step (y_load1 hT rfl rfl rfl (Rd1.row (by (repeat (first | exact Pick.head | apply Pick.tail | apply Pick.app))) hd)) rfl rfl rfl ?_
    refine JL.step (y_move rfl) rfl rfl rfl ?_
    refine JL.loud rfl (l_callF e27 rfl rfl (Fc.on (Split.cons (by (repeat (first | exact Pick.head | apply Pick.tail | apply Pick.app))) Split.nil) (read_spec E d D (D.slotAt i).1 _ hpn)) ?_)
    rintro _ _ ⟨rfl, rfl⟩
    refine JL.step (y_extract rfl rfl) rfl rfl rfl (JL.step (y_extract rfl rfl) rfl rfl rfl ?_)
    refine JL.loud rfl (l_storeAll hT rfl rfl rfl (by (first | rfl | assumption | (simp; done) | omega)) (by (first | assumption | exact ones_of rfl | exact encW_one _ | exact encB_one _ | (intro u hu; simp at hu; rcases hu with rfl | rfl <;> rfl) | (intro u hu; simp at hu; subst hu; rfl) | simp)) (by (repeat (first | exact Pick.head | apply Pick.tail | apply Pick.app))) (by (first | rfl | assumption | (simp; done) | omega)) ?_)
    refine JL.step (y_assign rfl) rfl rfl rfl ?_
    refine JL.nil ?_
    refine JE.then_normal ?_
    refine J.ret ?_
    refine JE.ret2 (.inl rfl) rfl rfl (by (first | exact RV.tmp rfl | exact RV.cell1 hT rfl rfl rfl (by (exact Rd1.row (by (repeat (first | exact Pick.head | apply Pick.tail | apply Pick.app))) (by rfl))) | exact RV.cellN hT rfl rfl rfl (by (first | exact RdN.rowAll (by (repeat (first | exact Pick.head | apply Pick.tail | apply Pick.app))) | exact RdN.own (by (repeat (first | exact Pick.head | apply Pick.tail | apply Pick.app))))) (by (first | rfl | assumption | (simp; done) | omega)))) (by (first | exact RV.tmp rfl | exact RV.cell1 hT rfl rfl rfl (by (exact Rd1.row (by (repeat (first | exact Pick.head | apply Pick.tail | apply Pick.app))) (by rfl))) | exact RV.cellN hT rfl rfl rfl (by (first | exact RdN.rowAll (by (repeat (first | exact Pick.head | apply Pick.tail | apply Pick.app))) | exact RdN.own (by (repeat (first | exact Pick.head | apply Pick.tail | apply Pick.app))))) (by (first | rfl | assumption | (simp; done) | omega)))) ?_
    refine ⟨?_, fun w q => q.sup (by (repeat (first | exact Sup.refl | apply Sup.cons (by (repeat (first | exact Pick.head | apply Pick.tail | apply Pick.app))) | apply Sup.app | apply Sup.skip | apply Sup.skips)))⟩
    unfold Dk.slot
    first
      | (rw [if_pos (by omega)]; rfl)
      | (rw [if_neg (by omega)]; rfl)
theorem sput_spec (i : Int) (b : Blk) (hb : b.length = 64) : Fc prog E 40 [.pointer (some ⟨st, 0, none⟩), .int .i64 i, .agg (encB b).toArray].toArray (row st 125 (scells s d) :: disk d D :: l) (fun v l' => v = .int .i64 (D.put i b).2 ∧ l' = row st 125 (scells s d) :: disk d (D.put i b).1 :: l) := by
  refine Fc.eqs ?_
  have hd := scells_disk (d := d) hh
  have hbL : (encB b).length = 64 := (encB_length _).trans hb
  refine Fc.of_body (c := ?c) Try.func40 ?hb Try.ntmps40 ?hl ?_
  case hb => exact rfl
  case hl => exact rfl
  refine J.seq ?_
  refine J.region ?_
  refine JL.loud rfl (l_box rfl (by (first | rfl | simp)) rfl (fun b1 => ?_))
  refine JL.step (y_assign rfl) rfl rfl rfl ?_
  refine JL.nil ?_
  refine JE.then_normal ?_
  refine J.seq ?_
  refine J.region ?_
  refine JL.step (y_move rfl) rfl rfl rfl (JL.step (y_move rfl) rfl rfl rfl ?_)
  refine JL.loud rfl (l_callF e72 rfl rfl (Fc.on (Split.cons (by (repeat (first | exact Pick.head | apply Pick.tail | apply Pick.app))) (Split.cons (by (repeat (first | exact Pick.head | apply Pick.tail | apply Pick.app))) Split.nil)) (at_spec E st d s D _ hh h2 i)) ?_)
  rintro _ _ ⟨rfl, rfl⟩
  refine JL.step (y_move rfl) rfl rfl rfl (JL.step (y_extract rfl rfl) rfl rfl rfl (JL.step (y_extract rfl rfl) rfl rfl rfl (JL.step (y_assign rfl) rfl rfl rfl (JL.step (y_assign rfl) rfl rfl rfl ?_))))
  refine JL.nil ?_
  refine JE.then_normal ?_
  refine J.seq ?_
  refine J.seq ?_
  refine J.region ?_
  refine JL.step (y_move rfl) rfl rfl rfl (JL.step (y_neq rfl rfl) rfl rfl rfl ?_)
  refine JL.nil ?_
  refine JE.then_normal ?_
  first | apply J.cond_dec rfl | apply J.cond rfl
  case' ht =>
    intro h
    try (first | (exfalso; omega) | (cases h; done) | (exfalso; simp at h; done) | subst h)
    all_goals
      refine J.seq ?_
      refine J.region ?_
      refine JL.step (y_move rfl) rfl rfl rfl (JL.step (y_assign rfl) rfl rfl rfl ?_)
      refine JL.nil ?_
      refine JE.then_normal ?_
      refine J.ret ?_
      refine JE.then_ret ?_
      refine JE.ret1 (.inl rfl) rfl rfl (by (first | exact RV.tmp rfl | exact RV.cell1 hT rfl rfl rfl (by (exact Rd1.row (by (repeat (first | exact Pick.head | apply Pick.tail | apply Pick.app))) (by rfl))) | exact RV.cellN hT rfl rfl rfl (by (first | exact RdN.rowAll (by (repeat (first | exact Pick.head | apply Pick.tail | apply Pick.app))) | exact RdN.own (by (repeat (first | exact Pick.head | apply Pick.tail | apply Pick.app))))) (by (first | rfl | assumption | (simp; done) | omega)))) ?_
      unfold Dk.put
      first
        | (rw [if_pos (by omega)]; exact ⟨rfl, fun w q => q.sup (by (repeat (first | exact Sup.refl | apply Sup.cons (by (repeat (first | exact Pick.head | apply Pick.tail | apply Pick.app))) | apply Sup.app | apply Sup.skip | apply Sup.skips)))⟩)
        | (rw [if_neg (by omega)]; exact ⟨rfl, fun w q => q.sup (by (repeat (first | exact Sup.refl | apply Sup.cons (by (repeat (first | exact Pick.head | apply Pick.tail | apply Pick.app))) | apply Sup.app | apply Sup.skip | apply Sup.skips)))⟩)
  case' hf =>
    intro h
    try (first | (exfalso; omega) | (cases h; done) | (exfalso; simp at h; done) | subst h)
    all_goals
      refine J.skip ?_
  all_goals refine JE.then_normal ?_
  all_goals
    refine J.seq ?_
    refine J.draw _ _ [(0, .q), (1, .q), (2, .q), (3, .q), (4, .q), (5, .q), (6, .l), (7, .q)] mixed (by kernel_rfl) (Split.cons (Pick.tail Pick.head) (Split.nil)) ?_
    refine JM.quiet rfl rfl rfl rfl (fun m => y_move rfl) ?_
    refine JM.quiet rfl rfl rfl rfl (fun m => (by first | exact y_nilCheck rfl | exact y_nilCheckF rfl | exact y_nilCheckY rfl)) ?_
    refine JM.quiet rfl rfl rfl rfl (fun m => y_fieldAddr hT rfl rfl rfl rfl rfl rfl) ?_
    refine JM.quiet rfl rfl rfl rfl (fun m => y_load1 hT rfl rfl rfl (Rd1.row (Pick.app m (by (repeat (first | exact Pick.head | apply Pick.tail | apply Pick.app)))) hd)) ?_
    refine JM.quiet rfl rfl rfl rfl (fun m => y_move rfl) ?_
    refine JM.quiet rfl rfl rfl rfl (fun m => y_loadN hT rfl rfl rfl (by (first | exact RdN.rowAll (Pick.app m (by (repeat (first | exact Pick.head | apply Pick.tail | apply Pick.app)))) | exact RdN.own (Pick.app m (by (repeat (first | exact Pick.head | apply Pick.tail | apply Pick.app)))))) (by (first | rfl | assumption | (simp; done) | omega))) ?_
    refine JM.loud rfl rfl (fun fr => l_callF e47 rfl rfl (Fc.on (Split.cons (by (repeat (first | exact Pick.head | apply Pick.tail | apply Pick.app))) Split.nil) (write_spec E d D (D.slotAt i).1 b hb _ hpn)) ?_)
    rintro _ _ ⟨rfl, rfl⟩
    refine ⟨[_], (by (repeat (first | exact Split.nil | exact Split.all | refine Split.cons Pick.head ?_))), ?_⟩
    refine JM.quiet rfl rfl rfl rfl (fun m => y_assign rfl) ?_
    refine JM.nil ?_
    refine JE.then_normal ?_
    refine J.ret ?_
    refine JE.ret1 (.inl rfl) rfl rfl (by (first | exact RV.tmp rfl | exact RV.cell1 hT rfl rfl rfl (by (exact Rd1.row (by (repeat (first | exact Pick.head | apply Pick.tail | apply Pick.app))) (by rfl))) | exact RV.cellN hT rfl rfl rfl (by (first | exact RdN.rowAll (by (repeat (first | exact Pick.head | apply Pick.tail | apply Pick.app))) | exact RdN.own (by (repeat (first | exact Pick.head | apply Pick.tail | apply Pick.app))))) (by (first | rfl | assumption | (simp; done) | omega)))) ?_
    unfold Dk.put
    first
      | (rw [if_pos (by omega)]; exact ⟨rfl, fun w q => q.sup (by (repeat (first | exact Sup.refl | apply Sup.cons (by (repeat (first | exact Pick.head | apply Pick.tail | apply Pick.app))) | apply Sup.app | apply Sup.skip | apply Sup.skips)))⟩)
      | (rw [if_neg (by omega)]; exact ⟨rfl, fun w q => q.sup (by (repeat (first | exact Sup.refl | apply Sup.cons (by (repeat (first | exact Pick.head | apply Pick.tail | apply Pick.app))) | apply Sup.app | apply Sup.skip | apply Sup.skips)))⟩)
end
/-- A disk that is divided. -/
def sb0 : Sb := ⟨0, 0#64, 0, (sha []).take 16⟩
theorem sb0_hash : sb0.hash.length = 16 := by simp [sb0, sha_length]
def Dk.formatted (D : Dk) : Dk := ((D.does.push 0 (sbBlock sb0)).does.push 1 zeroB).does.settle (fun _ => true)
theorem format_small (d : Nat) (D : Dk) (l : List HProp) (h : D.safe.length < 64) :
    Fc prog E 38 [.pointer (some ⟨d, 0, none⟩)].toArray (disk d D :: l) (fun v l' => v = .tuple #[.pointer none, .int .i64 2] ∧ l' = disk d D :: l) := by
  refine Fc.of_body (c := ?c) Try.func38 ?hb Try.ntmps38 ?hl ?_
  case hb => exact rfl
  case hl => exact rfl
  refine J.seq ?_
  refine J.region ?_
  refine JL.step (y_assign rfl) rfl rfl rfl (JL.step (y_assign rfl) rfl rfl rfl ?_)
  refine JL.nil ?_
  refine JE.then_normal ?_
  refine J.seq ?_
  refine J.block ?_
  refine J.seq ?_
  refine J.region ?_
  refine JL.step (y_move rfl) rfl rfl rfl (JL.step (y_ptr_eq_nil hT rfl rfl rfl rfl) rfl rfl rfl (JL.step (y_assign rfl) rfl rfl rfl ?_))
  refine JL.nil ?_
  refine JE.then_normal ?_
  refine J.cond_f rfl (by (first | rfl | assumption | (simp; done) | (simp; omega))) ?_
  refine J.seq ?_
  refine J.region ?_
  refine JL.step (y_move rfl) rfl rfl rfl ?_
  refine JL.loud rfl (l_callF e26 rfl rfl (len_spec E d D _) ?_)
  rintro _ _ ⟨rfl, rfl⟩
  refine JL.step (y_lss rfl rfl) rfl rfl rfl (JL.step (y_assign rfl) rfl rfl rfl ?_)
  refine JL.nil ?_
  refine JE.then_normal ?_
  refine J.cond_t rfl (by (first | rfl | assumption | (simp; done) | (simp; omega))) ?_
  refine J.seq ?_
  refine J.region ?_
  refine JL.step (y_assign rfl) rfl rfl rfl (JL.step (y_assign rfl) rfl rfl rfl ?_)
  refine JL.nil ?_
  refine JE.then_normal ?_
  refine J.ret ?_
  refine JE.block_ret ?_
  refine JE.then_ret ?_
  refine JE.ret2 (.inl rfl) rfl rfl (by (first | exact RV.tmp rfl | exact RV.cell1 hT rfl rfl rfl (by (exact Rd1.row (by (repeat (first | exact Pick.head | apply Pick.tail | apply Pick.app))) (by rfl))) | exact RV.cellN hT rfl rfl rfl (by (first | exact RdN.rowAll (by (repeat (first | exact Pick.head | apply Pick.tail | apply Pick.app))) | exact RdN.own (by (repeat (first | exact Pick.head | apply Pick.tail | apply Pick.app))))) (by (first | rfl | assumption | (simp; done) | omega)))) (by (first | exact RV.tmp rfl | exact RV.cell1 hT rfl rfl rfl (by (exact Rd1.row (by (repeat (first | exact Pick.head | apply Pick.tail | apply Pick.app))) (by rfl))) | exact RV.cellN hT rfl rfl rfl (by (first | exact RdN.rowAll (by (repeat (first | exact Pick.head | apply Pick.tail | apply Pick.app))) | exact RdN.own (by (repeat (first | exact Pick.head | apply Pick.tail | apply Pick.app))))) (by (first | rfl | assumption | (simp; done) | omega)))) ?_
  exact ⟨rfl, rfl⟩
theorem format_good (d : Nat) (D : Dk) (l : List HProp) (h : 64 ≤ D.safe.length) (hdead : D.dead = false) (harm : D.armed = false) (hpn : D.pending.length ≤ 100000) :
    Fc prog E 38 [.pointer (some ⟨d, 0, none⟩)].toArray (disk d D :: l) (fun v l' => ∃ st, v = .tuple #[.pointer (some ⟨st, 0, none⟩), .int .i64 0] ∧ l' = row st 125 (scells sb0 d) :: disk d D.formatted :: l) := by
  refine Fc.post ?_
  have hnilIn : ∀ l, InL l none 0 0 (ints .u8 []) := fun l => ⟨Nat.le_refl _, Nat.zero_le _, .inr ⟨rfl, rfl⟩⟩
  have hw0 : D.write 0 (sbBlock sb0) = (D.does.push 0 (sbBlock sb0), 0) := by
    have hr : D.ready 0 = 0 := by rw [Dk.ready, hdead, if_neg (by simp), if_neg (by omega)]
    rw [Dk.write, if_neg (by rw [hr]; simp), if_neg (by simp [harm])]
  obtain ⟨D1, hD1⟩ : ∃ D1, D.does.push 0 (sbBlock sb0) = D1 := ⟨_, rfl⟩
  have h1d : D1.dead = false := by rw [← hD1]; exact hdead
  have h1a : D1.armed = false := by rw [← hD1]; exact harm
  have h1s : D1.safe.length = D.safe.length := by rw [← hD1]; rfl
  have h1p : D1.pending.length = D.pending.length + 1 := by rw [← hD1]; simp [Dk.push, Dk.does]
  have hw1 : D1.write 1 zeroB = (D1.does.push 1 zeroB, 0) := by
    have hr : D1.ready 1 = 0 := by rw [Dk.ready, h1d, if_neg (by simp), if_neg (by omega)]
    rw [Dk.write, if_neg (by rw [hr]; simp), if_neg (by simp [h1a])]
  obtain ⟨D2, hD2⟩ : ∃ D2, D1.does.push 1 zeroB = D2 := ⟨_, rfl⟩
  have h2p : D2.pending.length = D1.pending.length + 1 := by rw [← hD2]; simp [Dk.push, Dk.does]
  have hs2 : D2.sync = (D2.does.settle (fun _ => true), 0) := by
    rw [Dk.sync, if_neg (by rw [← hD2]; simp [Dk.push, Dk.does, h1d]), if_neg (by rw [← hD2]; simp [Dk.push, Dk.does, h1a])]
  have hfin : D.formatted = D2.does.settle (fun _ => true) := by rw [← hD2, ← hD1]; rfl
  rw [hfin]
  have c0 : ∀ l, Fc prog E 47 [Value.pointer (some ⟨d, 0, none⟩), .int .i64 0, .agg (encB (sbBlock sb0)).toArray].toArray (disk d D :: l) (fun v l' => v = .int .i64 0 ∧ l' = disk d D1 :: l) := fun l => by
    have q := write_spec E d D 0 (sbBlock sb0) (sbBlock_length sb0_hash) l (by omega)
    rwa [hw0, hD1] at q
  have c1 : ∀ l, Fc prog E 47 [Value.pointer (some ⟨d, 0, none⟩), .int .i64 1, .agg (encB zeroB).toArray].toArray (disk d D1 :: l) (fun v l' => v = .int .i64 0 ∧ l' = disk d D2 :: l) := fun l => by
    have q := write_spec E d D1 1 zeroB rfl l (by omega)
    rwa [hw1, hD2] at q
  have c2 : ∀ l, Fc prog E 32 [Value.pointer (some ⟨d, 0, none⟩)].toArray (disk d D2 :: l) (fun v l' => v = .int .i64 0 ∧ l' = disk d (D2.does.settle (fun _ => true)) :: l) := fun l => by
    have q := sync_spec E d D2 l (by omega)
    rwa [hs2] at q
  have hS19 : (encS sb0).length = 19 := by simp [encS, ints, sb0_hash]
  have hS1 := encS_one sb0
  obtain ⟨hs, hhs⟩ : ∃ hs, (sha []).take 16 = hs := ⟨_, rfl⟩
  have hsl : hs.length = 16 := by rw [← hhs]; simp [sha_length]
  have hs16 : (ints .u8 hs).length = 16 := by simp [ints, hsl]
  have esb : encS sb0 = .int .i64 0 :: Q 0#64 :: .int .i64 0 :: ints .u8 hs := by rw [encS, sb0, hhs]
  have hshort : ∀ l, Fc prog E 70 [.slice none 0 0].toArray l (fun v l' => v = .agg (ints .u8 hs).toArray ∧ l' = l) := fun l => by
    have q := short_spec E none 0 [] l (hnilIn l) (by simp)
    rwa [hhs] at q
  obtain ⟨S0, hS0⟩ : ∃ S0, sb0 = S0 := ⟨_, rfl⟩
  have hS0h : S0.hash.length = 16 := by rw [← hS0]; exact sb0_hash
  rw [hS0] at c0 hS19 hS1 esb ⊢
  refine Fc.of_body (c := ?c) Try.func38 ?hb Try.ntmps38 ?hl ?_
  case hb => exact rfl
  case hl => exact rfl
  refine J.seq ?_
  refine J.region ?_
  refine JL.step (y_assign rfl) rfl rfl rfl (JL.step (y_assign rfl) rfl rfl rfl ?_)
  refine JL.nil ?_
  refine JE.then_normal ?_
  refine J.seq ?_
  refine J.block ?_
  refine J.seq ?_
  refine J.region ?_
  refine JL.step (y_move rfl) rfl rfl rfl (JL.step (y_ptr_eq_nil hT rfl rfl rfl rfl) rfl rfl rfl (JL.step (y_assign rfl) rfl rfl rfl ?_))
  refine JL.nil ?_
  refine JE.then_normal ?_
  refine J.cond_f rfl (by (first | rfl | assumption | (simp; done) | (simp; omega))) ?_
  refine J.seq ?_
  refine J.region ?_
  refine JL.step (y_move rfl) rfl rfl rfl ?_
  refine JL.loud rfl (l_callF e26 rfl rfl (len_spec E d D _) ?_)
  rintro _ _ ⟨rfl, rfl⟩
  refine JL.step (y_lss rfl rfl) rfl rfl rfl (JL.step (y_assign rfl) rfl rfl rfl ?_)
  refine JL.nil ?_
  refine JE.then_normal ?_
  refine J.cond_f rfl (by (first | rfl | assumption | (simp; done) | (simp; omega))) ?_
  refine J.skip ?_
  refine JE.block_normal ?_
  refine JE.then_normal ?_
  refine J.seq ?_
  refine J.region ?_
  refine JL.loud rfl (l_callF e70 rfl rfl (hshort _) ?_)
  rintro _ _ ⟨rfl, rfl⟩
  refine JL.step (y_build (cs := encS S0) hT rfl rfl rfl rfl rfl rfl ⟨⟨hs16, Nat.le_of_ble_eq_true rfl⟩, trivial⟩ (by rw [esb]; simp [fillE, Value.cells, ints]; exact ⟨rfl, Nat.le_of_ble_eq_true rfl⟩)) rfl rfl rfl ?_
  refine JL.loud rfl (l_alloc hT rfl rfl (by (first | rfl | simp)) rfl (fun b3 => ?_))
  refine JL.loud rfl (l_storeAll hT rfl rfl rfl (by (first | rfl | assumption | (simp; done) | omega)) (by (first | assumption | exact ones_of rfl | exact encW_one _ | exact encB_one _ | (intro u hu; simp at hu; rcases hu with rfl | rfl <;> rfl) | (intro u hu; simp at hu; subst hu; rfl) | simp)) (by (repeat (first | exact Pick.head | apply Pick.tail | apply Pick.app))) (by (first | rfl | assumption | (simp; done) | omega)) ?_)
  refine JL.nil ?_
  refine JE.then_normal ?_
  refine J.seq ?_
  refine J.seq ?_
  refine J.region ?_
  refine JL.step (y_move rfl) rfl rfl rfl ?_
  refine JL.step (y_loadN hT rfl rfl rfl (by (first | exact RdN.rowAll (by (repeat (first | exact Pick.head | apply Pick.tail | apply Pick.app))) | exact RdN.own (by (repeat (first | exact Pick.head | apply Pick.tail | apply Pick.app))))) (by (first | rfl | assumption | (simp; done) | omega))) rfl rfl rfl ?_
  refine JL.loud rfl (l_callF e71 rfl rfl (block_super_spec E S0 _ hS0h) ?_)
  rintro _ _ ⟨rfl, rfl⟩
  refine JL.loud rfl (l_callF e47 rfl rfl (Fc.on (Split.cons (by (repeat (first | exact Pick.head | apply Pick.tail | apply Pick.app))) Split.nil) (c0 _)) ?_)
  rintro _ _ ⟨rfl, rfl⟩
  refine JL.step (y_assign rfl) rfl rfl rfl ?_
  refine JL.nil ?_
  refine JE.then_normal ?_
  refine J.seq ?_
  refine J.region ?_
  refine JL.step (y_move rfl) rfl rfl rfl (JL.step (y_neq rfl rfl) rfl rfl rfl ?_)
  refine JL.nil ?_
  refine JE.then_normal ?_
  refine J.cond_f rfl (by (first | rfl | assumption | (simp; done) | (simp; omega))) ?_
  refine J.skip ?_
  refine JE.then_normal ?_
  refine J.seq ?_
  refine J.seq ?_
  refine J.region ?_
  refine JL.step (y_move rfl) rfl rfl rfl (JL.step (y_build_arr0 hT rfl rfl rfl rfl) rfl rfl rfl ?_)
  refine JL.loud rfl (l_callF e47 rfl rfl (Fc.on (Split.cons (by (repeat (first | exact Pick.head | apply Pick.tail | apply Pick.app))) Split.nil) (c1 _)) ?_)
  rintro _ _ ⟨rfl, rfl⟩
  refine JL.step (y_assign rfl) rfl rfl rfl ?_
  refine JL.nil ?_
  refine JE.then_normal ?_
  refine J.seq ?_
  refine J.region ?_
  refine JL.step (y_move rfl) rfl rfl rfl (JL.step (y_neq rfl rfl) rfl rfl rfl ?_)
  refine JL.nil ?_
  refine JE.then_normal ?_
  refine J.cond_f rfl (by (first | rfl | assumption | (simp; done) | (simp; omega))) ?_
  refine J.skip ?_
  refine JE.then_normal ?_
  refine J.seq ?_
  refine J.seq ?_
  refine J.region ?_
  refine JL.step (y_move rfl) rfl rfl rfl ?_
  refine JL.loud rfl (l_callF e32 rfl rfl (Fc.on (Split.cons (by (repeat (first | exact Pick.head | apply Pick.tail | apply Pick.app))) Split.nil) (c2 _)) ?_)
  rintro _ _ ⟨rfl, rfl⟩
  refine JL.step (y_assign rfl) rfl rfl rfl ?_
  refine JL.nil ?_
  refine JE.then_normal ?_
  refine J.seq ?_
  refine J.region ?_
  refine JL.step (y_move rfl) rfl rfl rfl (JL.step (y_neq rfl rfl) rfl rfl rfl ?_)
  refine JL.nil ?_
  refine JE.then_normal ?_
  refine J.cond_f rfl (by (first | rfl | assumption | (simp; done) | (simp; omega))) ?_
  refine J.skip ?_
  refine JE.then_normal ?_
  refine J.seq ?_
  refine J.region ?_
  refine JL.step (y_loadN hT rfl rfl rfl (by (first | exact RdN.rowAll (by (repeat (first | exact Pick.head | apply Pick.tail | apply Pick.app))) | exact RdN.own (by (repeat (first | exact Pick.head | apply Pick.tail | apply Pick.app))))) (by (first | rfl | assumption | (simp; done) | omega))) rfl rfl rfl ?_
  refine JL.step (y_move rfl) rfl rfl rfl ?_
  refine JL.step (y_build (cs := scells S0 d) hT rfl rfl rfl rfl rfl rfl ⟨⟨hS19, Nat.le_of_ble_eq_true rfl⟩, ⟨rfl, Nat.le_of_ble_eq_true rfl⟩, trivial⟩ (by simp [fillE, Value.cells, scells, hS19, i122, i24])) rfl rfl rfl ?_
  refine JL.loud rfl (l_box rfl (by (first | rfl | simp)) rfl (fun b9 => ?_))
  refine JL.step (y_assign rfl) rfl rfl rfl (JL.step (y_assign rfl) rfl rfl rfl ?_)
  refine JL.nil ?_
  refine JE.then_normal ?_
  refine J.ret ?_
  refine JE.ret2 (.inl rfl) rfl rfl (by (first | exact RV.tmp rfl | exact RV.cell1 hT rfl rfl rfl (by (exact Rd1.row (by (repeat (first | exact Pick.head | apply Pick.tail | apply Pick.app))) (by rfl))) | exact RV.cellN hT rfl rfl rfl (by (first | exact RdN.rowAll (by (repeat (first | exact Pick.head | apply Pick.tail | apply Pick.app))) | exact RdN.own (by (repeat (first | exact Pick.head | apply Pick.tail | apply Pick.app))))) (by (first | rfl | assumption | (simp; done) | omega)))) (by (first | exact RV.tmp rfl | exact RV.cell1 hT rfl rfl rfl (by (exact Rd1.row (by (repeat (first | exact Pick.head | apply Pick.tail | apply Pick.app))) (by rfl))) | exact RV.cellN hT rfl rfl rfl (by (first | exact RdN.rowAll (by (repeat (first | exact Pick.head | apply Pick.tail | apply Pick.app))) | exact RdN.own (by (repeat (first | exact Pick.head | apply Pick.tail | apply Pick.app))))) (by (first | rfl | assumption | (simp; done) | omega)))) ?_
  exact ⟨_, fun w q => q.sup (by (repeat (first | exact Sup.refl | apply Sup.cons (by (repeat (first | exact Pick.head | apply Pick.tail | apply Pick.app))) | apply Sup.app | apply Sup.skip | apply Sup.skips))), _, rfl, rfl⟩
end Go.Proofs.Ytilifeeddpkclaa
