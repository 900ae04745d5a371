import Derived.Test.YtilifeeddpkclaaExt2
namespace Go.Proofs.Ytilifeeddpkclaa
open Go Go.SL
def scells (s : Sb) (d : Nat) : List Value := encS s ++ [.pointer (some ⟨d, 0, none⟩)]
theorem scells_disk {s : Sb} {d : Nat} (h : s.hash.length = 16) : (scells s d)[0 + 19]? = some (Value.pointer (some ⟨d, 0, none⟩)) := by simp [scells, encS, ints, h]
theorem scells_length {s : Sb} {d : Nat} (h : s.hash.length = 16) : (scells s d).length = 20 := by simp [scells, encS, ints, h]
theorem scells_one (s : Sb) (d : Nat) : ∀ u ∈ scells s d, u.oneCell' = true := by
  intro u hu
  simp only [scells, List.mem_append, List.mem_singleton] at hu
  rcases hu with h | rfl
  · exact encS_one s u h
  · rfl
theorem Dk.Ok.readLen {D : Dk} (h : D.Ok) (i : Int) : (D.read i).length = 64 := by
  unfold Dk.read
  split
  · rename_i hr
    exact h.find (ready_zero hr).2
  · rfl
/-- How many sectors a snapshot's place has; the log's. -/
def Dk.half (D : Dk) : Nat := (D.safe.length - 2) / 4
def Dk.slots (D : Dk) : Nat := D.safe.length - 2 - 2 * D.half
attribute [local irreducible] J JL JE JM LS Y Fc RV Code.wp wpList Code.wpIn wpListIn
attribute [local irreducible] Yc
variable (E : World)
theorem h_spec (d : Nat) (D : Dk) (l : List HProp) (h2 : 2 ≤ D.safe.length) :
    Fc prog E 73 [.pointer (some ⟨d, 0, none⟩)].toArray (disk d D :: l) (fun v l' => v = .int .i64 (D.half : Int) ∧ l' = disk d D :: l) := by
  refine disk_okd fun hok => ?_
  have hm := hok.most
  refine Fc.of_body (c := ?c) Try.func73 ?hb Try.ntmps73 ?hl ?_
  case hb => exact rfl
  case hl => exact rfl
  refine J.seq ?_
  refine J.region ?_
  refine JL.step (y_assign rfl) rfl rfl rfl ?_
  refine JL.nil ?_
  refine JE.then_normal ?_
  refine J.seq ?_
  refine J.region ?_
  refine JL.step (y_move rfl) rfl rfl rfl ?_
  refine JL.loud rfl (l_callF e26 rfl rfl (len_spec E d D _) ?_)
  rintro _ _ ⟨rfl, rfl⟩
  refine JL.step (y_sub (m := ((D.safe.length - 2 : Nat) : Int)) rfl rfl (by rw [show (D.safe.length : Int) - 2 = ((D.safe.length - 2 : Nat) : Int) by omega]; exact wrap_i64 (by omega) (by omega))) rfl rfl rfl ?_
  refine JL.step (y_quo (m := (D.half : Int)) rfl rfl (by decide) (by rw [show ((D.safe.length - 2 : Nat) : Int).tdiv 4 = (D.half : Int) by (unfold Dk.half; rw [Int.tdiv_eq_ediv_of_nonneg (by omega)]; omega)]; exact wrap_i64 (by omega) (by unfold Dk.half; omega))) rfl rfl rfl ?_
  refine JL.step (y_assign rfl) rfl rfl rfl ?_
  refine JL.nil ?_
  refine JE.then_normal ?_
  refine J.ret ?_
  refine JE.ret1 (.inl rfl) rfl rfl (by (first | exact RV.tmp rfl | exact RV.cell1 hT rfl rfl rfl (by (exact Rd1.row (by (repeat (first | exact Pick.head | apply Pick.tail | apply Pick.app))) (by rfl))) | exact RV.cellN hT rfl rfl rfl (by (first | exact RdN.rowAll (by (repeat (first | exact Pick.head | apply Pick.tail | apply Pick.app))) | exact RdN.own (by (repeat (first | exact Pick.head | apply Pick.tail | apply Pick.app))))) (by (first | rfl | assumption | (simp; done) | omega)))) ?_
  exact ⟨rfl, rfl⟩
section
variable (st d : Nat) (s : Sb) (D : Dk) (l : List HProp) (hh : s.hash.length = 16) (h2 : 2 ≤ D.safe.length)
include hh
theorem turn_spec : Fc prog E 52 [.pointer (some ⟨st, 0, none⟩)].toArray (row st 125 (scells s d) :: disk d D :: l) (fun v l' => v = Q s.turn ∧ l' = row st 125 (scells s d) :: disk d D :: l) := by
  have _hh := hh
  refine Fc.of_body (c := ?c) Try.func52 ?hb Try.ntmps52 ?hl ?_
  case hb => exact rfl
  case hl => exact rfl
  refine J.seq ?_
  refine J.region ?_
  refine JL.step (y_assign rfl) rfl rfl rfl ?_
  refine JL.nil ?_
  refine JE.then_normal ?_
  refine J.seq ?_
  refine J.seq ?_
  refine J.region ?_
  refine JL.step (y_move rfl) rfl rfl rfl (JL.step (y_ptr_eq_nil hT rfl rfl rfl rfl) rfl rfl rfl ?_)
  refine JL.nil ?_
  refine JE.then_normal ?_
  refine J.cond_f rfl (by (first | rfl | assumption | (simp; done) | (simp; omega))) ?_
  refine J.skip ?_
  refine JE.then_normal ?_
  refine J.seq ?_
  refine J.region ?_
  refine JL.step (y_move rfl) rfl rfl rfl ?_
  refine JL.step ((by first | exact y_nilCheck rfl | exact y_nilCheckF rfl | exact y_nilCheckY rfl)) rfl rfl rfl ?_
  refine JL.step (y_fieldAddr hT rfl rfl rfl rfl rfl rfl) rfl rfl rfl (JL.step (y_fieldAddr hT rfl rfl rfl rfl rfl rfl) rfl rfl rfl ?_)
  refine JL.step (y_load1 hT rfl rfl rfl (by (exact Rd1.row (by (repeat (first | exact Pick.head | apply Pick.tail | apply Pick.app))) (by rfl)))) rfl rfl rfl ?_
  refine JL.step (y_assign rfl) rfl rfl rfl ?_
  refine JL.nil ?_
  refine JE.then_normal ?_
  refine J.ret ?_
  refine JE.ret1 (.inl rfl) rfl rfl (by (first | exact RV.tmp rfl | exact RV.cell1 hT rfl rfl rfl (by (exact Rd1.row (by (repeat (first | exact Pick.head | apply Pick.tail | apply Pick.app))) (by rfl))) | exact RV.cellN hT rfl rfl rfl (by (first | exact RdN.rowAll (by (repeat (first | exact Pick.head | apply Pick.tail | apply Pick.app))) | exact RdN.own (by (repeat (first | exact Pick.head | apply Pick.tail | apply Pick.app))))) (by (first | rfl | assumption | (simp; done) | omega)))) ?_
  exact ⟨rfl, rfl⟩
theorem sdisk_spec : Fc prog E 54 [.pointer (some ⟨st, 0, none⟩)].toArray (row st 125 (scells s d) :: disk d D :: l) (fun v l' => v = .pointer (some ⟨d, 0, none⟩) ∧ l' = row st 125 (scells s d) :: disk d D :: l) := by
  have hd := scells_disk (d := d) hh
  refine Fc.of_body (c := ?c) Try.func54 ?hb Try.ntmps54 ?hl ?_
  case hb => exact rfl
  case hl => exact rfl
  refine J.seq ?_
  refine J.region ?_
  refine JL.step (y_assign rfl) rfl rfl rfl ?_
  refine JL.nil ?_
  refine JE.then_normal ?_
  refine J.seq ?_
  refine J.seq ?_
  refine J.region ?_
  refine JL.step (y_move rfl) rfl rfl rfl (JL.step (y_ptr_eq_nil hT rfl rfl rfl rfl) rfl rfl rfl ?_)
  refine JL.nil ?_
  refine JE.then_normal ?_
  refine J.cond_f rfl (by (first | rfl | assumption | (simp; done) | (simp; omega))) ?_
  refine J.skip ?_
  refine JE.then_normal ?_
  refine J.seq ?_
  refine J.region ?_
  refine JL.step (y_move rfl) rfl rfl rfl ?_
  refine JL.step ((by first | exact y_nilCheck rfl | exact y_nilCheckF rfl | exact y_nilCheckY rfl)) rfl rfl rfl ?_
  refine JL.step (y_fieldAddr hT rfl rfl rfl rfl rfl rfl) rfl rfl rfl ?_
  refine JL.step (y_load1 hT rfl rfl rfl (Rd1.row (by (repeat (first | exact Pick.head | apply Pick.tail | apply Pick.app))) hd)) rfl rfl rfl ?_
  refine JL.step (y_assign rfl) rfl rfl rfl ?_
  refine JL.nil ?_
  refine JE.then_normal ?_
  refine J.ret ?_
  refine JE.ret1 (.inl rfl) rfl rfl (by (first | exact RV.tmp rfl | exact RV.cell1 hT rfl rfl rfl (by (exact Rd1.row (by (repeat (first | exact Pick.head | apply Pick.tail | apply Pick.app))) (by rfl))) | exact RV.cellN hT rfl rfl rfl (by (first | exact RdN.rowAll (by (repeat (first | exact Pick.head | apply Pick.tail | apply Pick.app))) | exact RdN.own (by (repeat (first | exact Pick.head | apply Pick.tail | apply Pick.app))))) (by (first | rfl | assumption | (simp; done) | omega)))) ?_
  exact ⟨rfl, rfl⟩
theorem ssync_spec (hpn : D.pending.length ≤ 1000000) : Fc prog E 43 [.pointer (some ⟨st, 0, none⟩)].toArray (row st 125 (scells s d) :: disk d D :: l) (fun v l' => v = .int .i64 D.sync.2 ∧ l' = row st 125 (scells s d) :: disk d D.sync.1 :: l) := by
  refine Fc.eqs ?_
  have hd := scells_disk (d := d) hh
  refine Fc.of_body (c := ?c) Try.func43 ?hb Try.ntmps43 ?hl ?_
  case hb => exact rfl
  case hl => exact rfl
  refine J.seq ?_
  refine J.region ?_
  refine JL.step (y_assign rfl) rfl rfl rfl ?_
  refine JL.nil ?_
  refine JE.then_normal ?_
  refine J.seq ?_
  refine J.seq ?_
  refine J.region ?_
  refine JL.step (y_move rfl) rfl rfl rfl (JL.step (y_ptr_eq_nil hT rfl rfl rfl rfl) rfl rfl rfl ?_)
  refine JL.nil ?_
  refine JE.then_normal ?_
  refine J.cond_f rfl (by (first | rfl | assumption | (simp; done) | (simp; omega))) ?_
  refine J.skip ?_
  refine JE.then_normal ?_
  refine J.seq ?_
  refine J.region ?_
  refine JL.step (y_move rfl) rfl rfl rfl ?_
  refine JL.step ((by first | exact y_nilCheck rfl | exact y_nilCheckF rfl | exact y_nilCheckY rfl)) rfl rfl rfl ?_
  refine JL.step (y_fieldAddr hT rfl rfl rfl rfl rfl rfl) rfl rfl rfl ?_
  refine JL.step (y_load1 hT rfl rfl rfl (Rd1.row (by (repeat (first | exact Pick.head | apply Pick.tail | apply Pick.app))) hd)) rfl rfl rfl ?_
  refine JL.loud rfl (l_callF e32 rfl rfl (Fc.on (Split.cons (by (repeat (first | exact Pick.head | apply Pick.tail | apply Pick.app))) Split.nil) (sync_spec E d D _ hpn)) ?_)
  rintro _ _ ⟨rfl, rfl⟩
  refine JL.step (y_assign rfl) rfl rfl rfl ?_
  refine JL.nil ?_
  refine JE.then_normal ?_
  refine J.ret ?_
  refine JE.ret1 (.inl rfl) rfl rfl (by (first | exact RV.tmp rfl | exact RV.cell1 hT rfl rfl rfl (by (exact Rd1.row (by (repeat (first | exact Pick.head | apply Pick.tail | apply Pick.app))) (by rfl))) | exact RV.cellN hT rfl rfl rfl (by (first | exact RdN.rowAll (by (repeat (first | exact Pick.head | apply Pick.tail | apply Pick.app))) | exact RdN.own (by (repeat (first | exact Pick.head | apply Pick.tail | apply Pick.app))))) (by (first | rfl | assumption | (simp; done) | omega)))) ?_
  exact ⟨rfl, fun w q => q.sup (by (repeat (first | exact Sup.refl | apply Sup.cons (by (repeat (first | exact Pick.head | apply Pick.tail | apply Pick.app))) | apply Sup.app | apply Sup.skip | apply Sup.skips)))⟩
include h2
theorem room_spec : Fc prog E 44 [.pointer (some ⟨st, 0, none⟩)].toArray (row st 125 (scells s d) :: disk d D :: l) (fun v l' => v = .int .i64 ((64 * D.half : Nat) : Int) ∧ l' = row st 125 (scells s d) :: disk d D :: l) := by
  refine Fc.fact (p := D.Ok) (fun w q => (disk_open (q.pick (Pick.tail Pick.head))).elim fun _ ⟨_, _, _, h, _⟩ => h) fun hok => Fc.eqs ?_
  have hm := hok.most
  have hd := scells_disk (d := d) hh
  refine Fc.of_body (c := ?c) Try.func44 ?hb Try.ntmps44 ?hl ?_
  case hb => exact rfl
  case hl => exact rfl
  refine J.seq ?_
  refine J.region ?_
  refine JL.step (y_assign rfl) rfl rfl rfl ?_
  refine JL.nil ?_
  refine JE.then_normal ?_
  refine J.seq ?_
  refine J.seq ?_
  refine J.region ?_
  refine JL.step (y_move rfl) rfl rfl rfl (JL.step (y_ptr_eq_nil hT rfl rfl rfl rfl) rfl rfl rfl ?_)
  refine JL.nil ?_
  refine JE.then_normal ?_
  refine J.cond_f rfl (by (first | rfl | assumption | (simp; done) | (simp; omega))) ?_
  refine J.skip ?_
  refine JE.then_normal ?_
  refine J.seq ?_
  refine J.region ?_
  refine JL.step (y_move rfl) rfl rfl rfl ?_
  refine JL.step ((by first | exact y_nilCheck rfl | exact y_nilCheckF rfl | exact y_nilCheckY rfl)) rfl rfl rfl ?_
  refine JL.step (y_fieldAddr hT rfl rfl rfl rfl rfl rfl) rfl rfl rfl ?_
  refine JL.step (y_load1 hT rfl rfl rfl (Rd1.row (by (repeat (first | exact Pick.head | apply Pick.tail | apply Pick.app))) hd)) rfl rfl rfl ?_
  refine JL.loud rfl (l_callF e73 rfl rfl (Fc.on (Split.cons (by (repeat (first | exact Pick.head | apply Pick.tail | apply Pick.app))) Split.nil) (h_spec E d D _ h2)) ?_)
  rintro _ _ ⟨rfl, rfl⟩
  refine JL.step (y_mul (m := ((64 * D.half : Nat) : Int)) rfl rfl (by rw [show (64 : Int) * (D.half : Int) = ((64 * D.half : Nat) : Int) by omega]; exact wrap_i64 (by omega) (by unfold Dk.half; omega))) rfl rfl rfl ?_
  refine JL.step (y_assign rfl) rfl rfl rfl ?_
  refine JL.nil ?_
  refine JE.then_normal ?_
  refine J.ret ?_
  refine JE.ret1 (.inl rfl) rfl rfl (by (first | exact RV.tmp rfl | exact RV.cell1 hT rfl rfl rfl (by (exact Rd1.row (by (repeat (first | exact Pick.head | apply Pick.tail | apply Pick.app))) (by rfl))) | exact RV.cellN hT rfl rfl rfl (by (first | exact RdN.rowAll (by (repeat (first | exact Pick.head | apply Pick.tail | apply Pick.app))) | exact RdN.own (by (repeat (first | exact Pick.head | apply Pick.tail | apply Pick.app))))) (by (first | rfl | assumption | (simp; done) | omega)))) ?_
  exact ⟨rfl, fun w q => q.sup (by (repeat (first | exact Sup.refl | apply Sup.cons (by (repeat (first | exact Pick.head | apply Pick.tail | apply Pick.app))) | apply Sup.app | apply Sup.skip | apply Sup.skips)))⟩
theorem slots_spec : Fc prog E 42 [.pointer (some ⟨st, 0, none⟩)].toArray (row st 125 (scells s d) :: disk d D :: l) (fun v l' => v = .int .i64 (D.slots : Int) ∧ l' = row st 125 (scells s d) :: disk d D :: l) := by
  refine Fc.fact (p := D.Ok) (fun w q => (disk_open (q.pick (Pick.tail Pick.head))).elim fun _ ⟨_, _, _, h, _⟩ => h) fun hok => Fc.eqs ?_
  have hm := hok.most
  have hd := scells_disk (d := d) hh
  have hq : 4 * D.half ≤ D.safe.length - 2 := by unfold Dk.half; omega
  refine Fc.of_body (c := ?c) Try.func42 ?hb Try.ntmps42 ?hl ?_
  case hb => exact rfl
  case hl => exact rfl
  refine J.seq ?_
  refine J.region ?_
  refine JL.step (y_assign rfl) rfl rfl rfl ?_
  refine JL.nil ?_
  refine JE.then_normal ?_
  refine J.seq ?_
  refine J.seq ?_
  refine J.region ?_
  refine JL.step (y_move rfl) rfl rfl rfl (JL.step (y_ptr_eq_nil hT rfl rfl rfl rfl) rfl rfl rfl ?_)
  refine JL.nil ?_
  refine JE.then_normal ?_
  refine J.cond_f rfl (by (first | rfl | assumption | (simp; done) | (simp; omega))) ?_
  refine J.skip ?_
  refine JE.then_normal ?_
  refine J.seq ?_
  refine J.draw _ _ [(0, .q), (1, .q), (2, .q), (3, .q), (6, .q), (7, .q), (8, .q), (9, .q), (4, .l), (5, .q), (10, .l), (11, .q), (12, .q), (13, .q)] mixed (by kernel_rfl) (Split.cons (Pick.tail Pick.head) (Split.nil)) ?_
  refine JM.quiet rfl rfl rfl rfl (fun m => y_move rfl) ?_
  refine JM.quiet rfl rfl rfl rfl (fun m => (by first | exact y_nilCheck rfl | exact y_nilCheckF rfl | exact y_nilCheckY rfl)) ?_
  refine JM.quiet rfl rfl rfl rfl (fun m => y_fieldAddr hT rfl rfl rfl rfl rfl rfl) ?_
  refine JM.quiet rfl rfl rfl rfl (fun m => y_load1 hT rfl rfl rfl (Rd1.row (Pick.app m (by (repeat (first | exact Pick.head | apply Pick.tail | apply Pick.app)))) hd)) ?_
  refine JM.quiet rfl rfl rfl rfl (fun m => y_move rfl) ?_
  refine JM.quiet rfl rfl rfl rfl (fun m => (by first | exact y_nilCheck rfl | exact y_nilCheckF rfl | exact y_nilCheckY rfl)) ?_
  refine JM.quiet rfl rfl rfl rfl (fun m => y_fieldAddr hT rfl rfl rfl rfl rfl rfl) ?_
  refine JM.quiet rfl rfl rfl rfl (fun m => y_load1 hT rfl rfl rfl (Rd1.row (Pick.app m (by (repeat (first | exact Pick.head | apply Pick.tail | apply Pick.app)))) hd)) ?_
  refine JM.loud rfl rfl (fun fr => l_callF e26 rfl rfl (Fc.on (Split.cons (by (repeat (first | exact Pick.head | apply Pick.tail | apply Pick.app))) Split.nil) (len_spec E d D _)) ?_)
  rintro _ _ ⟨rfl, rfl⟩
  refine ⟨[_], (by (repeat (first | exact Split.nil | exact Split.all | refine Split.cons Pick.head ?_))), ?_⟩
  refine JM.quiet rfl rfl rfl rfl (fun m => y_sub rfl rfl (by (first | exact wrap_i64 (by omega) (by omega) | rfl))) ?_
  refine JM.loud rfl rfl (fun fr => l_callF e73 rfl rfl (Fc.on (Split.cons (by (repeat (first | exact Pick.head | apply Pick.tail | apply Pick.app))) Split.nil) (h_spec E d D _ h2)) ?_)
  rintro _ _ ⟨rfl, rfl⟩
  refine ⟨[_], (by (repeat (first | exact Split.nil | exact Split.all | refine Split.cons Pick.head ?_))), ?_⟩
  refine JM.quiet rfl rfl rfl rfl (fun m => y_mul rfl rfl (by (first | exact wrap_i64 (by omega) (by omega) | rfl))) ?_
  refine JM.quiet rfl rfl rfl rfl (fun m => y_sub (m := (D.slots : Int)) rfl rfl (by rw [show (D.safe.length : Int) - 2 - 2 * (D.half : Int) = (D.slots : Int) by (unfold Dk.slots; omega)]; exact wrap_i64 (by omega) (by unfold Dk.slots; omega))) ?_
  refine JM.quiet rfl rfl rfl rfl (fun m => y_assign rfl) ?_
  refine JM.nil ?_
  refine JE.then_normal ?_
  refine J.ret ?_
  refine JE.ret1 (.inl rfl) rfl rfl (by (first | exact RV.tmp rfl | exact RV.cell1 hT rfl rfl rfl (by (exact Rd1.row (by (repeat (first | exact Pick.head | apply Pick.tail | apply Pick.app))) (by rfl))) | exact RV.cellN hT rfl rfl rfl (by (first | exact RdN.rowAll (by (repeat (first | exact Pick.head | apply Pick.tail | apply Pick.app))) | exact RdN.own (by (repeat (first | exact Pick.head | apply Pick.tail | apply Pick.app))))) (by (first | rfl | assumption | (simp; done) | omega)))) ?_
  exact ⟨rfl, fun w q => q.sup (by (repeat (first | exact Sup.refl | apply Sup.cons (by (repeat (first | exact Pick.head | apply Pick.tail | apply Pick.app))) | apply Sup.app | apply Sup.skip | apply Sup.skips)))⟩
def Dk.slotAt (D : Dk) (i : Int) : Int × Int := if i < 0 ∨ (D.slots : Int) ≤ i then (0, 2) else (2 + 2 * (D.half : Int) + i, 0)
theorem at_spec (i : Int) : Fc prog E 72 [.pointer (some ⟨st, 0, none⟩), .int .i64 i].toArray (row st 125 (scells s d) :: disk d D :: l) (fun v l' => v = .tuple #[.int .i64 (D.slotAt i).1, .int .i64 (D.slotAt i).2] ∧ l' = row st 125 (scells s d) :: disk d D :: l) := by
  refine Fc.fact (p := D.Ok) (fun w q => (disk_open (q.pick (Pick.tail Pick.head))).elim fun _ ⟨_, _, _, h, _⟩ => h) fun hok => Fc.eqs ?_
  have hm := hok.most
  have hd := scells_disk (d := d) hh
  have hq : 4 * D.half ≤ D.safe.length - 2 := by unfold Dk.half; omega
  have hsl : D.slots ≤ D.safe.length := by unfold Dk.slots; omega
  refine Fc.of_body (c := ?c) Try.func72 ?hb Try.ntmps72 ?hl ?_
  case hb => exact rfl
  case hl => exact rfl
  refine J.seq ?_
  refine J.region ?_
  refine JL.step (y_assign rfl) rfl rfl rfl (JL.step (y_assign rfl) rfl rfl rfl ?_)
  refine JL.nil ?_
  refine JE.then_normal ?_
  refine J.seq ?_
  refine J.block ?_
  refine J.seq ?_
  refine J.region ?_
  refine JL.step (y_move rfl) rfl rfl rfl (JL.step (y_ptr_eq_nil hT rfl rfl rfl rfl) rfl rfl rfl (JL.step (y_assign rfl) rfl rfl rfl ?_))
  refine JL.nil ?_
  refine JE.then_normal ?_
  refine J.cond_f rfl (by (first | rfl | assumption | (simp; done) | (simp; omega))) ?_
  refine J.seq ?_
  refine J.region ?_
  refine JL.step (y_move rfl) rfl rfl rfl (JL.step (y_lss rfl rfl) rfl rfl rfl (JL.step (y_move rfl) rfl rfl rfl ?_))
  all_goals (first | (refine JL.gsplit_dec rfl rfl rfl (fun h => ?_) (fun h => ?_) <;> try (first | (exfalso; omega) | exact absurd rfl h)) | (refine JL.gsplit rfl rfl rfl (fun h => ?_) (fun h => ?_) <;> try (first | cases h | (exfalso; simp at h; done))) | skip)
  all_goals (first | refine JL.gskip rfl rfl rfl rfl rfl rfl ?_ | refine JL.gskipU rfl rfl rfl rfl rfl ?_ | refine JL.gstep rfl rfl rfl (y_move rfl) rfl rfl ?_)
  all_goals (first | refine JL.gskip rfl rfl rfl rfl rfl rfl ?_ | refine JL.gskipU rfl rfl rfl rfl rfl ?_ | refine JL.gstep rfl rfl rfl (y_move rfl) rfl rfl ?_)
  all_goals (first | refine JL.gskip rfl rfl rfl rfl rfl rfl ?_ | refine JL.gskipU rfl rfl rfl rfl rfl ?_ | (refine JL.gloud rfl rfl rfl (l_callF e42 rfl rfl (slots_spec E st d s D _ hh h2) ?_); rintro _ _ ⟨rfl, rfl⟩))
  all_goals (first | refine JL.gskip rfl rfl rfl rfl rfl rfl ?_ | refine JL.gskipU rfl rfl rfl rfl rfl ?_ | refine JL.gstep rfl rfl rfl (y_geq rfl rfl) rfl rfl ?_)
  all_goals (refine JL.step (y_pick rfl rfl rfl) rfl rfl rfl ?_)
  all_goals (refine JL.step (y_assign rfl) rfl rfl rfl ?_)
  all_goals refine JL.nil ?_
  all_goals refine JE.then_normal ?_
  all_goals
    first | apply J.cond_dec rfl | apply J.cond rfl
    case' ht =>
      intro h
      try (first | (exfalso; omega) | (cases h; done) | (exfalso; simp at h; done) | subst h)
      all_goals
        refine J.seq ?_
        refine J.region ?_
        refine JL.step (y_assign rfl) rfl rfl rfl (JL.step (y_assign rfl) rfl rfl rfl ?_)
        refine JL.nil ?_
        refine JE.then_normal ?_
        refine J.ret ?_
        refine JE.block_ret ?_
        refine JE.then_ret ?_
        refine JE.ret2 (.inl rfl) rfl rfl (by (first | exact RV.tmp rfl | exact RV.cell1 hT rfl rfl rfl (by (exact Rd1.row (by (repeat (first | exact Pick.head | apply Pick.tail | apply Pick.app))) (by rfl))) | exact RV.cellN hT rfl rfl rfl (by (first | exact RdN.rowAll (by (repeat (first | exact Pick.head | apply Pick.tail | apply Pick.app))) | exact RdN.own (by (repeat (first | exact Pick.head | apply Pick.tail | apply Pick.app))))) (by (first | rfl | assumption | (simp; done) | omega)))) (by (first | exact RV.tmp rfl | exact RV.cell1 hT rfl rfl rfl (by (exact Rd1.row (by (repeat (first | exact Pick.head | apply Pick.tail | apply Pick.app))) (by rfl))) | exact RV.cellN hT rfl rfl rfl (by (first | exact RdN.rowAll (by (repeat (first | exact Pick.head | apply Pick.tail | apply Pick.app))) | exact RdN.own (by (repeat (first | exact Pick.head | apply Pick.tail | apply Pick.app))))) (by (first | rfl | assumption | (simp; done) | omega)))) ?_
        refine ⟨?_, fun w q => q.sup (by (repeat (first | exact Sup.refl | apply Sup.cons (by (repeat (first | exact Pick.head | apply Pick.tail | apply Pick.app))) | apply Sup.app | apply Sup.skip | apply Sup.skips)))⟩
        unfold Dk.slotAt
        first
          | rw [if_pos (by omega)]
          | rw [if_neg (by omega)]
    case' hf =>
      intro h
      try (first | (exfalso; omega) | (cases h; done) | (exfalso; simp at h; done) | subst h)
      all_goals
        refine J.skip ?_
  all_goals refine JE.block_normal ?_
  all_goals refine JE.then_normal ?_
  all_goals
    refine J.seq ?_
    refine J.region ?_
    refine JL.step (y_move rfl) rfl rfl rfl ?_
    refine JL.step ((by first | exact y_nilCheck rfl | exact y_nilCheckF rfl | exact y_nilCheckY rfl)) rfl rfl rfl ?_
    refine JL.step (y_fieldAddr hT rfl rfl rfl rfl rfl rfl) rfl rfl rfl ?_
    refine JL.step (y_load1 hT rfl rfl rfl (Rd1.row (by (repeat (first | exact Pick.head | apply Pick.tail | apply Pick.app))) hd)) rfl rfl rfl ?_
    refine JL.loud rfl (l_callF e73 rfl rfl (Fc.on (Split.cons (by (repeat (first | exact Pick.head | apply Pick.tail | apply Pick.app))) Split.nil) (h_spec E d D _ h2)) ?_)
    rintro _ _ ⟨rfl, rfl⟩
    refine JL.step (y_mul rfl rfl (by (first | exact wrap_i64 (by omega) (by omega) | rfl))) rfl rfl rfl ?_
    refine JL.step (y_add rfl rfl (by (first | exact wrap_i64 (by omega) (by omega) | rfl))) rfl rfl rfl ?_
    refine JL.step (y_move rfl) rfl rfl rfl ?_
    refine JL.step (y_add rfl rfl (by (first | exact wrap_i64 (by omega) (by omega) | rfl))) rfl rfl rfl ?_
    refine JL.step (y_assign rfl) rfl rfl rfl (JL.step (y_assign rfl) rfl rfl rfl ?_)
    refine JL.nil ?_
    refine JE.then_normal ?_
    refine J.ret ?_
    refine JE.ret2 (.inl rfl) rfl rfl (by (first | exact RV.tmp rfl | exact RV.cell1 hT rfl rfl rfl (by (exact Rd1.row (by (repeat (first | exact Pick.head | apply Pick.tail | apply Pick.app))) (by rfl))) | exact RV.cellN hT rfl rfl rfl (by (first | exact RdN.rowAll (by (repeat (first | exact Pick.head | apply Pick.tail | apply Pick.app))) | exact RdN.own (by (repeat (first | exact Pick.head | apply Pick.tail | apply Pick.app))))) (by (first | rfl | assumption | (simp; done) | omega)))) (by (first | exact RV.tmp rfl | exact RV.cell1 hT rfl rfl rfl (by (exact Rd1.row (by (repeat (first | exact Pick.head | apply Pick.tail | apply Pick.app))) (by rfl))) | exact RV.cellN hT rfl rfl rfl (by (first | exact RdN.rowAll (by (repeat (first | exact Pick.head | apply Pick.tail | apply Pick.app))) | exact RdN.own (by (repeat (first | exact Pick.head | apply Pick.tail | apply Pick.app))))) (by (first | rfl | assumption | (simp; done) | omega)))) ?_
    refine ⟨?_, fun w q => q.sup (by (repeat (first | exact Sup.refl | apply Sup.cons (by (repeat (first | exact Pick.head | apply Pick.tail | apply Pick.app))) | apply Sup.app | apply Sup.skip | apply Sup.skips)))⟩
    unfold Dk.slotAt
    first
      | rw [if_pos (by omega)]
      | rw [if_neg (by omega)]
end
end Go.Proofs.Ytilifeeddpkclaa
