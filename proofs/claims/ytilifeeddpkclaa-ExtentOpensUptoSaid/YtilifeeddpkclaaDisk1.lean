import Derived.Test.YtilifeeddpkclaaBase
namespace Go.Proofs.Ytilifeeddpkclaa
open Go Go.SL

abbrev Blk := List Int
def encB (b : Blk) : List Value := ints .u8 b
def encW (p : Int × Blk) : List Value := .int .i64 p.1 :: encB p.2
@[simp] theorem encB_length (b : Blk) : (encB b).length = b.length := by simp [encB]
theorem encB_one (b : Blk) : ∀ v ∈ encB b, v.oneCell' = true := ints_one _ _
theorem encW_one (p : Int × Blk) : ∀ v ∈ encW p, v.oneCell' = true := by
  intro v hv
  simp only [encW, List.mem_cons] at hv
  rcases hv with rfl | hv
  · rfl
  · exact encB_one _ v hv

/-- A disk. -/
structure Dk where
  safe : List Blk
  pending : List (Int × Blk)
  dead : Bool
  armed : Bool
  left : Int
  ops : Int
structure Dk.Ok (D : Dk) : Prop where
  safe : ∀ b ∈ D.safe, b.length = 64
  pend : ∀ p ∈ D.pending, p.2.length = 64 ∧ 0 ≤ p.1 ∧ p.1 < D.safe.length
  some : 1 ≤ D.safe.length
  most : D.safe.length ≤ 512
  left : -9223372036854775808 ≤ D.left ∧ D.left ≤ 9223372036854775807
theorem Dk.Ok.segB {D : Dk} (h : D.Ok) : ∀ b ∈ D.safe, (encB b).length = 64 := fun b hb => by rw [encB_length]; exact h.safe b hb
theorem Dk.Ok.segW {D : Dk} (h : D.Ok) : ∀ p ∈ D.pending, (encW p).length = 65 := fun p hp => by simp [encW, (h.pend p hp).1]

def dcells (D : Dk) (sa : Option Addr) (sc : Nat) (pa : Option Addr) (pc : Nat) : List Value :=
  [.slice sa D.safe.length sc, .slice pa D.pending.length pc, .bool D.dead, .bool D.armed, .int .i64 D.left, .int .i64 D.ops]
/-- A disk in memory. -/
def disk (d : Nat) (D : Dk) : HProp := ex fun q : Option Addr × Nat × Option Addr × Nat => stars
  [pur D.Ok, row d 102 (dcells D q.1 q.2.1 q.2.2.1 q.2.2.2),
   own 27 64 (.slice q.1 D.safe.length q.2.1) D.safe.length (D.safe.flatMap encB),
   own 113 65 (.slice q.2.2.1 D.pending.length q.2.2.2) D.pending.length (D.pending.flatMap encW)]
theorem disk_open {E w : World} {d : Nat} {D : Dk} {r : List HProp} (s : Sat E (stars (disk d D :: r)) w) : ∃ sa sc pa pc, D.Ok ∧ Sat E (stars (row d 102 (dcells D sa sc pa pc) ::
    own 27 64 (.slice sa D.safe.length sc) D.safe.length (D.safe.flatMap encB) :: own 113 65 (.slice pa D.pending.length pc) D.pending.length (D.pending.flatMap encW) :: r)) w := by
  obtain ⟨⟨sa, sc, pa, pc⟩, s⟩ := s.ofex
  obtain ⟨hok, s⟩ := s.unfold.ofpur
  exact ⟨sa, sc, pa, pc, hok, s⟩
theorem disk_shut {E w : World} {d : Nat} {D : Dk} {r : List HProp} {sa pa : Option Addr} {sc pc : Nat} (hok : D.Ok) (s : Sat E (stars (row d 102 (dcells D sa sc pa pc) ::
    own 27 64 (.slice sa D.safe.length sc) D.safe.length (D.safe.flatMap encB) :: own 113 65 (.slice pa D.pending.length pc) D.pending.length (D.pending.flatMap encW) :: r)) w) : Sat E (stars (disk d D :: r)) w :=
  Sat.toex (F := fun _ : Option Addr × Nat × Option Addr × Nat => _) (sa, sc, pa, pc) (Sat.fold (m := [_, _, _, _]) (s.topur hok))
section
variable {E : World} {ρ : Option Nat} {n : Nat} {ds : List Deferred} {env : Fr} {c : Code} {Q : Exit → Act → World → Prop} {d : Nat} {D : Dk} {r : List HProp}
theorem J.disk (h : ∀ sa sc pa pc, D.Ok → J prog E ρ n ds c Q env (row d 102 (dcells D sa sc pa pc) ::
    own 27 64 (.slice sa D.safe.length sc) D.safe.length (D.safe.flatMap encB) :: own 113 65 (.slice pa D.pending.length pc) D.pending.length (D.pending.flatMap encW) :: r)) : J prog E ρ n ds c Q env (disk d D :: r) := fun a w hf hs =>
  let ⟨sa, sc, pa, pc, hok, s⟩ := disk_open hs
  h sa sc pa pc hok a w hf s
/-- The world behind a function's end, the disk shut again. -/
theorem Fc.disk {f : FuncId} {args : Array Value} {l : List HProp} {R : Value → List HProp → Prop} {D' : Dk}
    (h : Fc prog E f args l fun v l' => ∃ sa sc pa pc, D'.Ok ∧ R v (Go.Proofs.Ytilifeeddpkclaa.disk d D' :: r) ∧ l' = row d 102 (dcells D' sa sc pa pc) ::
      own 27 64 (.slice sa D'.safe.length sc) D'.safe.length (D'.safe.flatMap encB) :: own 113 65 (.slice pa D'.pending.length pc) D'.pending.length (D'.pending.flatMap encW) :: r) : Fc prog E f args l R := fun w hs =>
  (h w hs).mono fun _ _ ⟨v, _, he, s, _, _, _, _, hok, hR, hl⟩ => ⟨v, _, he, disk_shut hok (hl ▸ s), hR⟩
end

theorem disk_okd {E : World} {f : FuncId} {args : Array Value} {d : Nat} {D : Dk} {r : List HProp} {R : Value → List HProp → Prop} (h : D.Ok → Fc prog E f args (disk d D :: r) R) : Fc prog E f args (disk d D :: r) R := fun w hs =>
  let ⟨_, _, _, _, hok, _⟩ := disk_open hs
  h hok w hs
attribute [local irreducible] J JL JE JM LS Y Fc RV Code.wp wpList Code.wpIn wpListIn
/-- Why nothing can be done. -/
def Dk.ready (D : Dk) (i : Int) : Int := if D.dead then 7 else if i < 0 ∨ D.safe.length ≤ i then 2 else 0

variable (E : World)
theorem ready_spec (d : Nat) (D : Dk) (i : Int) (r : List HProp) :
    Fc prog E 61 [Value.pointer (some ⟨d, 0, none⟩), .int .i64 i].toArray (disk d D :: r) (fun v l' => v = .int .i64 (D.ready i) ∧ l' = disk d D :: r) := by
  refine Fc.disk (d := d) (D' := D) (r := r) ?_
  refine Fc.of_body (c := ?c) Try.func61 ?hb Try.ntmps61 ?hl ?_
  case hb => exact rfl
  case hl => exact rfl
  refine J.disk fun sa sc pa pc hok => ?_
  refine J.seq ?_
  refine J.region ?_
  refine JL.step (y_assign rfl) rfl rfl rfl ?_
  refine JL.nil ?_
  refine JE.then_normal ?_
  refine J.seq ?_
  refine J.block ?_
  refine J.seq ?_
  refine J.region ?_
  refine JL.step (y_move rfl) rfl rfl rfl (JL.step (y_ptr_eq_nil hT rfl rfl rfl rfl) rfl rfl rfl (JL.step (y_assign rfl) rfl rfl rfl ?_))
  refine JL.nil ?_
  refine JE.then_normal ?_
  first | apply J.cond_dec rfl | apply J.cond rfl
  case' ht =>
    intro h
    try (first | (exfalso; omega) | (cases h; done) | (exfalso; simp at h; done) | subst h)
    all_goals
      refine J.seq ?_
      refine J.region ?_
      refine JL.step (y_assign rfl) rfl rfl rfl ?_
      refine JL.nil ?_
      refine JE.then_normal ?_
      refine J.ret ?_
      refine JE.block_ret ?_
      refine JE.then_ret ?_
      refine JE.ret1 (.inl rfl) rfl rfl (by (first | exact RV.tmp rfl | exact RV.cell1 hT rfl rfl rfl (by (exact Rd1.row (by (repeat (first | exact Pick.head | apply Pick.tail | apply Pick.app))) (by rfl))) | exact RV.cellN hT rfl rfl rfl (by (first | exact RdN.rowAll (by (repeat (first | exact Pick.head | apply Pick.tail | apply Pick.app))) | exact RdN.own (by (repeat (first | exact Pick.head | apply Pick.tail | apply Pick.app))))) (by (first | rfl | assumption | (simp; done) | omega)))) ?_
      refine ⟨sa, sc, pa, pc, hok, ⟨?_, rfl⟩, rfl⟩; simp_all [Dk.ready]
  case' hf =>
    intro h
    try (first | (exfalso; omega) | (cases h; done) | (exfalso; simp at h; done) | subst h)
    all_goals
      refine J.seq ?_
      refine J.region ?_
      refine JL.step (y_move rfl) rfl rfl rfl ?_
      refine JL.step ((by first | exact y_nilCheck rfl | exact y_nilCheckF rfl | exact y_nilCheckY rfl)) rfl rfl rfl ?_
      refine JL.step (y_fieldAddr hT rfl rfl rfl rfl rfl rfl) rfl rfl rfl ?_
      refine JL.step (y_load1 hT rfl rfl rfl (by (exact Rd1.row (by (repeat (first | exact Pick.head | apply Pick.tail | apply Pick.app))) (by rfl)))) rfl rfl rfl ?_
      refine JL.step (y_assign rfl) rfl rfl rfl ?_
      refine JL.nil ?_
      refine JE.then_normal ?_
      first | apply J.cond_dec rfl | apply J.cond rfl
      case' ht =>
        intro h
        try (first | (exfalso; omega) | (cases h; done) | (exfalso; simp at h; done) | subst h)
        all_goals
          refine J.seq ?_
          refine J.region ?_
          refine JL.step (y_assign rfl) rfl rfl rfl ?_
          refine JL.nil ?_
          refine JE.then_normal ?_
          refine J.ret ?_
          refine JE.block_ret ?_
          refine JE.then_ret ?_
          refine JE.ret1 (.inl rfl) rfl rfl (by (first | exact RV.tmp rfl | exact RV.cell1 hT rfl rfl rfl (by (exact Rd1.row (by (repeat (first | exact Pick.head | apply Pick.tail | apply Pick.app))) (by rfl))) | exact RV.cellN hT rfl rfl rfl (by (first | exact RdN.rowAll (by (repeat (first | exact Pick.head | apply Pick.tail | apply Pick.app))) | exact RdN.own (by (repeat (first | exact Pick.head | apply Pick.tail | apply Pick.app))))) (by (first | rfl | assumption | (simp; done) | omega)))) ?_
          refine ⟨sa, sc, pa, pc, hok, ⟨?_, rfl⟩, rfl⟩; simp_all [Dk.ready]
      case' hf =>
        intro h
        try (first | (exfalso; omega) | (cases h; done) | (exfalso; simp at h; done) | subst h)
        all_goals
          refine J.seq ?_
          refine J.region ?_
          refine JL.step (y_move rfl) rfl rfl rfl (JL.step (y_lss rfl rfl) rfl rfl rfl (JL.step (y_move rfl) rfl rfl rfl ?_))
          all_goals (first | (refine JL.gsplit_dec rfl rfl rfl (fun h => ?_) (fun h => ?_) <;> try (first | (exfalso; omega) | exact absurd rfl h)) | (refine JL.gsplit rfl rfl rfl (fun h => ?_) (fun h => ?_) <;> try (first | cases h | (exfalso; simp at h; done))) | skip)
          all_goals (first | refine JL.gskip rfl rfl rfl rfl rfl rfl ?_ | refine JL.gskipU rfl rfl rfl rfl rfl ?_ | refine JL.gstep rfl rfl rfl (y_move rfl) rfl rfl ?_)
          all_goals (first | refine JL.gskip rfl rfl rfl rfl rfl rfl ?_ | refine JL.gskipU rfl rfl rfl rfl rfl ?_ | refine JL.gstep rfl rfl rfl (y_move rfl) rfl rfl ?_)
          all_goals (first | refine JL.gskip rfl rfl rfl rfl rfl rfl ?_ | refine JL.gskipU rfl rfl rfl rfl rfl ?_ | refine JL.gstep rfl rfl rfl ((by first | exact y_nilCheck rfl | exact y_nilCheckF rfl | exact y_nilCheckY rfl)) rfl rfl ?_)
          all_goals (first | refine JL.gskip rfl rfl rfl rfl rfl rfl ?_ | refine JL.gskipU rfl rfl rfl rfl rfl ?_ | refine JL.gstep rfl rfl rfl (y_fieldAddr hT rfl rfl rfl rfl rfl rfl) rfl rfl ?_)
          all_goals (first | refine JL.gskip rfl rfl rfl rfl rfl rfl ?_ | refine JL.gskipU rfl rfl rfl rfl rfl ?_ | refine JL.gstep rfl rfl rfl (y_load1 hT rfl rfl rfl (by (exact Rd1.row (by (repeat (first | exact Pick.head | apply Pick.tail | apply Pick.app))) (by rfl)))) rfl rfl ?_)
          all_goals (first | refine JL.gskip rfl rfl rfl rfl rfl rfl ?_ | refine JL.gskipU rfl rfl rfl rfl rfl ?_ | refine JL.gstep rfl rfl rfl (y_len_slice hT rfl rfl rfl) rfl rfl ?_)
          all_goals (first | refine JL.gskip rfl rfl rfl rfl rfl rfl ?_ | refine JL.gskipU rfl rfl rfl rfl rfl ?_ | refine JL.gstep rfl rfl rfl (y_geq rfl rfl) rfl rfl ?_)
          all_goals (refine JL.step (y_pick rfl rfl rfl) rfl rfl rfl ?_)
          all_goals (refine JL.step (y_assign rfl) rfl rfl rfl ?_)
          all_goals refine JL.nil ?_
          all_goals refine JE.then_normal ?_
          all_goals
            first | apply J.cond_dec rfl | apply J.cond rfl
            case' ht =>
              intro h
              try (first | (exfalso; omega) | (cases h; done) | (exfalso; simp at h; done) | subst h)
              all_goals
                refine J.seq ?_
                refine J.region ?_
                refine JL.step (y_assign rfl) rfl rfl rfl ?_
                refine JL.nil ?_
                refine JE.then_normal ?_
                refine J.ret ?_
                refine JE.block_ret ?_
                refine JE.then_ret ?_
                refine JE.ret1 (.inl rfl) rfl rfl (by (first | exact RV.tmp rfl | exact RV.cell1 hT rfl rfl rfl (by (exact Rd1.row (by (repeat (first | exact Pick.head | apply Pick.tail | apply Pick.app))) (by rfl))) | exact RV.cellN hT rfl rfl rfl (by (first | exact RdN.rowAll (by (repeat (first | exact Pick.head | apply Pick.tail | apply Pick.app))) | exact RdN.own (by (repeat (first | exact Pick.head | apply Pick.tail | apply Pick.app))))) (by (first | rfl | assumption | (simp; done) | omega)))) ?_
                refine ⟨sa, sc, pa, pc, hok, ⟨?_, rfl⟩, rfl⟩; simp_all [Dk.ready]
            case' hf =>
              intro h
              try (first | (exfalso; omega) | (cases h; done) | (exfalso; simp at h; done) | subst h)
              all_goals
                refine J.skip ?_
  all_goals refine JE.block_normal ?_
  all_goals refine JE.then_normal ?_
  all_goals
    refine J.seq ?_
    refine J.region ?_
    refine JL.step (y_assign rfl) rfl rfl rfl ?_
    refine JL.nil ?_
    refine JE.then_normal ?_
    refine J.ret ?_
    refine JE.ret1 (.inl rfl) rfl rfl (by (first | exact RV.tmp rfl | exact RV.cell1 hT rfl rfl rfl (by (exact Rd1.row (by (repeat (first | exact Pick.head | apply Pick.tail | apply Pick.app))) (by rfl))) | exact RV.cellN hT rfl rfl rfl (by (first | exact RdN.rowAll (by (repeat (first | exact Pick.head | apply Pick.tail | apply Pick.app))) | exact RdN.own (by (repeat (first | exact Pick.head | apply Pick.tail | apply Pick.app))))) (by (first | rfl | assumption | (simp; done) | omega)))) ?_
    refine ⟨sa, sc, pa, pc, hok, ⟨?_, rfl⟩, rfl⟩; simp_all [Dk.ready]
theorem len_spec (d : Nat) (D : Dk) (r : List HProp) :
    Fc prog E 26 [Value.pointer (some ⟨d, 0, none⟩)].toArray (disk d D :: r) (fun v l' => v = .int .i64 D.safe.length ∧ l' = disk d D :: r) := by
  refine Fc.disk (d := d) (D' := D) (r := r) ?_
  refine Fc.of_body (c := ?c) Try.func26 ?hb Try.ntmps26 ?hl ?_
  case hb => exact rfl
  case hl => exact rfl
  refine J.disk fun sa sc pa pc hok => ?_
  refine J.seq ?_
  refine J.region ?_
  refine JL.step (y_assign rfl) rfl rfl rfl ?_
  refine JL.nil ?_
  refine JE.then_normal ?_
  refine J.seq ?_
  refine J.seq ?_
  refine J.region ?_
  refine JL.step (y_move rfl) rfl rfl rfl (JL.step (y_ptr_eq_nil hT rfl rfl rfl rfl) rfl rfl rfl ?_)
  refine JL.nil ?_
  refine JE.then_normal ?_
  first | apply J.cond_dec rfl | apply J.cond rfl
  case' ht =>
    intro h
    try (first | (exfalso; omega) | (cases h; done) | (exfalso; simp at h; done) | subst h)
    all_goals
      refine J.seq ?_
      refine J.region ?_
      refine JL.step (y_assign rfl) rfl rfl rfl ?_
      refine JL.nil ?_
      refine JE.then_normal ?_
      refine J.ret ?_
      refine JE.then_ret ?_
      refine JE.ret1 (.inl rfl) rfl rfl (by (first | exact RV.tmp rfl | exact RV.cell1 hT rfl rfl rfl (by (exact Rd1.row (by (repeat (first | exact Pick.head | apply Pick.tail | apply Pick.app))) (by rfl))) | exact RV.cellN hT rfl rfl rfl (by (first | exact RdN.rowAll (by (repeat (first | exact Pick.head | apply Pick.tail | apply Pick.app))) | exact RdN.own (by (repeat (first | exact Pick.head | apply Pick.tail | apply Pick.app))))) (by (first | rfl | assumption | (simp; done) | omega)))) ?_
      exact ⟨sa, sc, pa, pc, hok, ⟨rfl, rfl⟩, rfl⟩
  case' hf =>
    intro h
    try (first | (exfalso; omega) | (cases h; done) | (exfalso; simp at h; done) | subst h)
    all_goals
      refine J.skip ?_
  all_goals refine JE.then_normal ?_
  all_goals
    refine J.seq ?_
    refine J.region ?_
    refine JL.step (y_move rfl) rfl rfl rfl ?_
    refine JL.step ((by first | exact y_nilCheck rfl | exact y_nilCheckF rfl | exact y_nilCheckY rfl)) rfl rfl rfl ?_
    refine JL.step (y_fieldAddr hT rfl rfl rfl rfl rfl rfl) rfl rfl rfl ?_
    refine JL.step (y_load1 hT rfl rfl rfl (by (exact Rd1.row (by (repeat (first | exact Pick.head | apply Pick.tail | apply Pick.app))) (by rfl)))) rfl rfl rfl ?_
    refine JL.step (y_len_slice hT rfl rfl rfl) rfl rfl rfl (JL.step (y_assign rfl) rfl rfl rfl ?_)
    refine JL.nil ?_
    refine JE.then_normal ?_
    refine J.ret ?_
    refine JE.ret1 (.inl rfl) rfl rfl (by (first | exact RV.tmp rfl | exact RV.cell1 hT rfl rfl rfl (by (exact Rd1.row (by (repeat (first | exact Pick.head | apply Pick.tail | apply Pick.app))) (by rfl))) | exact RV.cellN hT rfl rfl rfl (by (first | exact RdN.rowAll (by (repeat (first | exact Pick.head | apply Pick.tail | apply Pick.app))) | exact RdN.own (by (repeat (first | exact Pick.head | apply Pick.tail | apply Pick.app))))) (by (first | rfl | assumption | (simp; done) | omega)))) ?_
    exact ⟨sa, sc, pa, pc, hok, ⟨rfl, rfl⟩, rfl⟩
theorem dead_spec (d : Nat) (D : Dk) (r : List HProp) :
    Fc prog E 31 [Value.pointer (some ⟨d, 0, none⟩)].toArray (disk d D :: r) (fun v l' => v = .bool D.dead ∧ l' = disk d D :: r) := by
  refine Fc.disk (d := d) (D' := D) (r := r) ?_
  refine Fc.of_body (c := ?c) Try.func31 ?hb Try.ntmps31 ?hl ?_
  case hb => exact rfl
  case hl => exact rfl
  refine J.disk fun sa sc pa pc hok => ?_
  refine J.seq ?_
  refine J.region ?_
  refine JL.step (y_assign rfl) rfl rfl rfl ?_
  refine JL.nil ?_
  refine JE.then_normal ?_
  refine J.seq ?_
  refine J.region ?_
  refine JL.step (y_move rfl) rfl rfl rfl (JL.step (y_ptr_ne_nil hT rfl rfl rfl rfl) rfl rfl rfl (JL.step (y_move rfl) rfl rfl rfl ?_))
  all_goals (first | (refine JL.gsplit_dec rfl rfl rfl (fun h => ?_) (fun h => ?_) <;> try (first | (exfalso; omega) | exact absurd rfl h)) | (refine JL.gsplit rfl rfl rfl (fun h => ?_) (fun h => ?_) <;> try (first | cases h | (exfalso; simp at h; done))) | skip)
  all_goals (first | refine JL.gskip rfl rfl rfl rfl rfl rfl ?_ | refine JL.gskipU rfl rfl rfl rfl rfl ?_ | refine JL.gstep rfl rfl rfl (y_move rfl) rfl rfl ?_)
  all_goals (first | refine JL.gskip rfl rfl rfl rfl rfl rfl ?_ | refine JL.gskipU rfl rfl rfl rfl rfl ?_ | refine JL.gstep rfl rfl rfl ((by first | exact y_nilCheck rfl | exact y_nilCheckF rfl | exact y_nilCheckY rfl)) rfl rfl ?_)
  all_goals (first | refine JL.gskip rfl rfl rfl rfl rfl rfl ?_ | refine JL.gskipU rfl rfl rfl rfl rfl ?_ | refine JL.gstep rfl rfl rfl (y_fieldAddr hT rfl rfl rfl rfl rfl rfl) rfl rfl ?_)
  all_goals (first | refine JL.gskip rfl rfl rfl rfl rfl rfl ?_ | refine JL.gskipU rfl rfl rfl rfl rfl ?_ | refine JL.gstep rfl rfl rfl (y_load1 hT rfl rfl rfl (by (exact Rd1.row (by (repeat (first | exact Pick.head | apply Pick.tail | apply Pick.app))) (by rfl)))) rfl rfl ?_)
  all_goals (refine JL.step (y_pick rfl rfl rfl) rfl rfl rfl ?_)
  all_goals (refine JL.step (y_assign rfl) rfl rfl rfl ?_)
  all_goals refine JL.nil ?_
  all_goals refine JE.then_normal ?_
  all_goals
    refine J.ret ?_
    refine JE.ret1 (.inl rfl) rfl rfl (by (first | exact RV.tmp rfl | exact RV.cell1 hT rfl rfl rfl (by (exact Rd1.row (by (repeat (first | exact Pick.head | apply Pick.tail | apply Pick.app))) (by rfl))) | exact RV.cellN hT rfl rfl rfl (by (first | exact RdN.rowAll (by (repeat (first | exact Pick.head | apply Pick.tail | apply Pick.app))) | exact RdN.own (by (repeat (first | exact Pick.head | apply Pick.tail | apply Pick.app))))) (by (first | rfl | assumption | (simp; done) | omega)))) ?_
    exact ⟨sa, sc, pa, pc, hok, ⟨rfl, rfl⟩, rfl⟩
theorem ops_spec (d : Nat) (D : Dk) (r : List HProp) :
    Fc prog E 30 [Value.pointer (some ⟨d, 0, none⟩)].toArray (disk d D :: r) (fun v l' => v = .int .i64 D.ops ∧ l' = disk d D :: r) := by
  refine Fc.disk (d := d) (D' := D) (r := r) ?_
  refine Fc.of_body (c := ?c) Try.func30 ?hb Try.ntmps30 ?hl ?_
  case hb => exact rfl
  case hl => exact rfl
  refine J.disk fun sa sc pa pc hok => ?_
  refine J.seq ?_
  refine J.region ?_
  refine JL.step (y_assign rfl) rfl rfl rfl ?_
  refine JL.nil ?_
  refine JE.then_normal ?_
  refine J.seq ?_
  refine J.seq ?_
  refine J.region ?_
  refine JL.step (y_move rfl) rfl rfl rfl (JL.step (y_ptr_eq_nil hT rfl rfl rfl rfl) rfl rfl rfl ?_)
  refine JL.nil ?_
  refine JE.then_normal ?_
  first | apply J.cond_dec rfl | apply J.cond rfl
  case' ht =>
    intro h
    try (first | (exfalso; omega) | (cases h; done) | (exfalso; simp at h; done) | subst h)
    all_goals
      refine J.seq ?_
      refine J.region ?_
      refine JL.step (y_assign rfl) rfl rfl rfl ?_
      refine JL.nil ?_
      refine JE.then_normal ?_
      refine J.ret ?_
      refine JE.then_ret ?_
      refine JE.ret1 (.inl rfl) rfl rfl (by (first | exact RV.tmp rfl | exact RV.cell1 hT rfl rfl rfl (by (exact Rd1.row (by (repeat (first | exact Pick.head | apply Pick.tail | apply Pick.app))) (by rfl))) | exact RV.cellN hT rfl rfl rfl (by (first | exact RdN.rowAll (by (repeat (first | exact Pick.head | apply Pick.tail | apply Pick.app))) | exact RdN.own (by (repeat (first | exact Pick.head | apply Pick.tail | apply Pick.app))))) (by (first | rfl | assumption | (simp; done) | omega)))) ?_
      exact ⟨sa, sc, pa, pc, hok, ⟨rfl, rfl⟩, rfl⟩
  case' hf =>
    intro h
    try (first | (exfalso; omega) | (cases h; done) | (exfalso; simp at h; done) | subst h)
    all_goals
      refine J.skip ?_
  all_goals refine JE.then_normal ?_
  all_goals
    refine J.seq ?_
    refine J.region ?_
    refine JL.step (y_move rfl) rfl rfl rfl ?_
    refine JL.step ((by first | exact y_nilCheck rfl | exact y_nilCheckF rfl | exact y_nilCheckY rfl)) rfl rfl rfl ?_
    refine JL.step (y_fieldAddr hT rfl rfl rfl rfl rfl rfl) rfl rfl rfl ?_
    refine JL.step (y_load1 hT rfl rfl rfl (by (exact Rd1.row (by (repeat (first | exact Pick.head | apply Pick.tail | apply Pick.app))) (by rfl)))) rfl rfl rfl ?_
    refine JL.step (y_assign rfl) rfl rfl rfl ?_
    refine JL.nil ?_
    refine JE.then_normal ?_
    refine J.ret ?_
    refine JE.ret1 (.inl rfl) rfl rfl (by (first | exact RV.tmp rfl | exact RV.cell1 hT rfl rfl rfl (by (exact Rd1.row (by (repeat (first | exact Pick.head | apply Pick.tail | apply Pick.app))) (by rfl))) | exact RV.cellN hT rfl rfl rfl (by (first | exact RdN.rowAll (by (repeat (first | exact Pick.head | apply Pick.tail | apply Pick.app))) | exact RdN.own (by (repeat (first | exact Pick.head | apply Pick.tail | apply Pick.app))))) (by (first | rfl | assumption | (simp; done) | omega)))) ?_
    exact ⟨sa, sc, pa, pc, hok, ⟨rfl, rfl⟩, rfl⟩
/-- The power goes behind so many. -/
def Dk.arm (D : Dk) (k : Int) : Dk := { D with armed := decide (0 ≤ k), left := k }
theorem arm_spec (d : Nat) (D : Dk) (k : Int) (hk : -9223372036854775808 ≤ k ∧ k ≤ 9223372036854775807) (r : List HProp) :
    Fc prog E 29 [Value.pointer (some ⟨d, 0, none⟩), .int .i64 k].toArray (disk d D :: r) (fun v l' => v = .int .i64 (if D.dead then 7 else 0) ∧ l' = disk d (if D.dead then D else D.arm k) :: r) := by
  have hr : D.Ok → D.ready 0 = if D.dead then 7 else 0 := fun h => by
    have := h.some
    have h' : ¬ ((0 : Int) < 0 ∨ (D.safe.length : Int) ≤ 0) := by omega
    simp only [Dk.ready, h', if_false]
  cases hd : D.dead with
  | true =>
    refine Fc.of_body (c := ?c) Try.func29 ?hb Try.ntmps29 ?hl ?_
    case hb => exact rfl
    case hl => exact rfl
    simp only [if_true]
    refine J.seq ?_
    refine J.region ?_
    refine JL.step (y_assign rfl) rfl rfl rfl ?_
    refine JL.nil ?_
    refine JE.then_normal ?_
    refine J.seq ?_
    refine J.seq ?_
    refine J.region ?_
    refine JL.step (y_move rfl) rfl rfl rfl ?_
    refine JL.loud rfl (l_callF e61 rfl rfl (ready_spec E d D 0 r) ?_)
    rintro _ _ ⟨rfl, rfl⟩
    refine JL.step (y_assign rfl) rfl rfl rfl ?_
    refine JL.nil ?_
    refine JE.then_normal ?_
    refine J.seq ?_
    refine J.region ?_
    simp only [Dk.ready, hd, if_true]
    refine JL.step (y_move rfl) rfl rfl rfl (JL.step (y_neq rfl rfl) rfl rfl rfl ?_)
    refine JL.nil ?_
    refine JE.then_normal ?_
    refine J.cond_t rfl (by (first | rfl | assumption | (simp; done) | (simp; omega))) ?_
    refine J.seq ?_
    refine J.region ?_
    refine JL.step (y_move rfl) rfl rfl rfl (JL.step (y_assign rfl) rfl rfl rfl ?_)
    refine JL.nil ?_
    refine JE.then_normal ?_
    refine J.ret ?_
    refine JE.then_ret ?_
    refine JE.ret1 (.inl rfl) rfl rfl (by (first | exact RV.tmp rfl | exact RV.cell1 hT rfl rfl rfl (by (exact Rd1.row (by (repeat (first | exact Pick.head | apply Pick.tail | apply Pick.app))) (by rfl))) | exact RV.cellN hT rfl rfl rfl (by (first | exact RdN.rowAll (by (repeat (first | exact Pick.head | apply Pick.tail | apply Pick.app))) | exact RdN.own (by (repeat (first | exact Pick.head | apply Pick.tail | apply Pick.app))))) (by (first | rfl | assumption | (simp; done) | omega)))) ?_
    exact ⟨rfl, rfl⟩
  | false =>
    refine Fc.disk (d := d) (D' := D.arm k) (r := r) ?_
    refine Fc.of_body (c := ?c) Try.func29 ?hb Try.ntmps29 ?hl ?_
    case hb => exact rfl
    case hl => exact rfl
    refine J.seq ?_
    refine J.region ?_
    refine JL.step (y_assign rfl) rfl rfl rfl ?_
    refine JL.nil ?_
    refine JE.then_normal ?_
    refine J.seq ?_
    refine J.seq ?_
    refine J.region ?_
    refine JL.step (y_move rfl) rfl rfl rfl ?_
    refine JL.loud rfl (l_callF e61 rfl rfl (ready_spec E d D 0 r) ?_)
    rintro _ _ ⟨rfl, rfl⟩
    refine JL.step (y_assign rfl) rfl rfl rfl ?_
    refine JL.nil ?_
    refine JE.then_normal ?_
    refine J.seq ?_
    refine J.disk fun sa sc pa pc hok => ?_
    rw [hr hok]
    simp only [hd, Bool.false_eq_true, if_false]
    refine J.region ?_
    refine JL.step (y_move rfl) rfl rfl rfl (JL.step (y_neq rfl rfl) rfl rfl rfl ?_)
    refine JL.nil ?_
    refine JE.then_normal ?_
    refine J.cond_f rfl (by (first | rfl | assumption | (simp; done) | (simp; omega))) ?_
    refine J.skip ?_
    refine JE.then_normal ?_
    refine J.seq ?_
    refine J.region ?_
    refine JL.step (y_move rfl) rfl rfl rfl (JL.step (y_move rfl) rfl rfl rfl (JL.step (y_move rfl) rfl rfl rfl (JL.step (y_geq rfl rfl) rfl rfl rfl (JL.step (y_move rfl) rfl rfl rfl ?_))))
    refine JL.step ((by first | exact y_nilCheck rfl | exact y_nilCheckF rfl | exact y_nilCheckY rfl)) rfl rfl rfl ?_
    refine JL.step (y_fieldAddr hT rfl rfl rfl rfl rfl rfl) rfl rfl rfl ?_
    refine JL.loud rfl (l_store1 hT rfl rfl rfl rfl rfl (by (repeat (first | exact Pick.head | apply Pick.tail | apply Pick.app))) (by (first | omega | exact Nat.le_of_ble_eq_true rfl | decide | (simp; omega))) ?_)
    refine JL.step ((by first | exact y_nilCheck rfl | exact y_nilCheckF rfl | exact y_nilCheckY rfl)) rfl rfl rfl ?_
    refine JL.step (y_fieldAddr hT rfl rfl rfl rfl rfl rfl) rfl rfl rfl ?_
    refine JL.loud rfl (l_store1 hT rfl rfl rfl rfl rfl (by (repeat (first | exact Pick.head | apply Pick.tail | apply Pick.app))) (by (first | omega | exact Nat.le_of_ble_eq_true rfl | decide | (simp; omega))) ?_)
    refine JL.nil ?_
    refine JE.then_normal ?_
    refine J.seq ?_
    refine J.region ?_
    refine JL.step (y_assign rfl) rfl rfl rfl ?_
    refine JL.nil ?_
    refine JE.then_normal ?_
    refine J.ret ?_
    refine JE.ret1 (.inl rfl) rfl rfl (by (first | exact RV.tmp rfl | exact RV.cell1 hT rfl rfl rfl (by (exact Rd1.row (by (repeat (first | exact Pick.head | apply Pick.tail | apply Pick.app))) (by rfl))) | exact RV.cellN hT rfl rfl rfl (by (first | exact RdN.rowAll (by (repeat (first | exact Pick.head | apply Pick.tail | apply Pick.app))) | exact RdN.own (by (repeat (first | exact Pick.head | apply Pick.tail | apply Pick.app))))) (by (first | rfl | assumption | (simp; done) | omega)))) ?_
    exact ⟨sa, sc, pa, pc, ⟨hok.safe, hok.pend, hok.some, hok.most, hk⟩, ⟨rfl, by simp⟩, rfl⟩
/-- One more is done. -/
def Dk.does (D : Dk) : Dk := { D with left := if D.armed then IntKind.i64.wrap (D.left - 1) else D.left, ops := IntKind.i64.wrap (D.ops + 1) }
/-- The power goes. -/
def Dk.dies (D : Dk) : Dk := { D with dead := true, armed := false }
theorem Dk.Ok.dies {D : Dk} (h : D.Ok) : D.dies.Ok := ⟨h.safe, h.pend, h.some, h.most, h.left⟩
theorem wrap_range (x : Int) : -9223372036854775808 ≤ IntKind.i64.wrap x ∧ IntKind.i64.wrap x ≤ 9223372036854775807 := by rw [IntKind.wrap_i64]; omega
theorem Dk.Ok.does {D : Dk} (h : D.Ok) : D.does.Ok := ⟨h.safe, h.pend, h.some, h.most, by
  simp only [Dk.does]
  split
  · exact wrap_range _
  · exact h.left⟩
theorem do_dies (d : Nat) (D : Dk) (f : FuncId) (cs : Array Value) (r : List HProp) (ha : D.armed = true) (h0 : D.left = 0) :
    Fc prog E 63 [Value.pointer (some ⟨d, 0, none⟩), .func (.func f) #[] cs].toArray (disk d D :: r) (fun v l' => v = .int .i64 7 ∧ l' = disk d D.dies :: r) := by
  refine Fc.disk (d := d) (D' := D.dies) (r := r) ?_
  refine Fc.of_body (c := ?c) Try.func63 ?hb Try.ntmps63 ?hl ?_
  case hb => exact rfl
  case hl => exact rfl
  refine J.disk fun sa sc pa pc hok => ?_
  refine J.seq ?_
  refine J.region ?_
  refine JL.step (y_assign rfl) rfl rfl rfl ?_
  refine JL.nil ?_
  refine JE.then_normal ?_
  refine J.seq ?_
  refine J.seq ?_
  refine J.region ?_
  refine JL.step (y_move rfl) rfl rfl rfl ?_
  refine JL.step ((by first | exact y_nilCheck rfl | exact y_nilCheckF rfl | exact y_nilCheckY rfl)) rfl rfl rfl ?_
  refine JL.step (y_fieldAddr hT rfl rfl rfl rfl rfl rfl) rfl rfl rfl ?_
  refine JL.step (y_load1 hT rfl rfl rfl (by (exact Rd1.row (by (repeat (first | exact Pick.head | apply Pick.tail | apply Pick.app))) (by rfl)))) rfl rfl rfl ?_
  refine JL.nil ?_
  refine JE.then_normal ?_
  refine J.cond_t rfl (by (first | rfl | assumption | (simp; done) | (simp; omega))) ?_
  refine J.seq ?_
  refine J.seq ?_
  refine J.region ?_
  refine JL.step (y_move rfl) rfl rfl rfl ?_
  refine JL.step ((by first | exact y_nilCheck rfl | exact y_nilCheckF rfl | exact y_nilCheckY rfl)) rfl rfl rfl ?_
  refine JL.step (y_fieldAddr hT rfl rfl rfl rfl rfl rfl) rfl rfl rfl ?_
  refine JL.step (y_load1 hT rfl rfl rfl (by (exact Rd1.row (by (repeat (first | exact Pick.head | apply Pick.tail | apply Pick.app))) (by rfl)))) rfl rfl rfl ?_
  refine JL.step (y_eql rfl rfl) rfl rfl rfl ?_
  refine JL.nil ?_
  refine JE.then_normal ?_
  refine J.cond_t rfl (by (first | rfl | assumption | (simp; done) | (simp; omega))) ?_
  refine J.seq ?_
  refine J.region ?_
  refine JL.step (y_move rfl) rfl rfl rfl (JL.step (y_move rfl) rfl rfl rfl ?_)
  refine JL.step ((by first | exact y_nilCheck rfl | exact y_nilCheckF rfl | exact y_nilCheckY rfl)) rfl rfl rfl ?_
  refine JL.step (y_fieldAddr hT rfl rfl rfl rfl rfl rfl) rfl rfl rfl ?_
  refine JL.loud rfl (l_store1 hT rfl rfl rfl rfl rfl (by (repeat (first | exact Pick.head | apply Pick.tail | apply Pick.app))) (by (first | omega | exact Nat.le_of_ble_eq_true rfl | decide | (simp; omega))) ?_)
  refine JL.step ((by first | exact y_nilCheck rfl | exact y_nilCheckF rfl | exact y_nilCheckY rfl)) rfl rfl rfl ?_
  refine JL.step (y_fieldAddr hT rfl rfl rfl rfl rfl rfl) rfl rfl rfl ?_
  refine JL.loud rfl (l_store1 hT rfl rfl rfl rfl rfl (by (repeat (first | exact Pick.head | apply Pick.tail | apply Pick.app))) (by (first | omega | exact Nat.le_of_ble_eq_true rfl | decide | (simp; omega))) ?_)
  refine JL.nil ?_
  refine JE.then_normal ?_
  refine J.seq ?_
  refine J.region ?_
  refine JL.step (y_assign rfl) rfl rfl rfl ?_
  refine JL.nil ?_
  refine JE.then_normal ?_
  refine J.ret ?_
  refine JE.then_ret ?_
  refine JE.then_ret ?_
  refine JE.ret1 (.inl rfl) rfl rfl (by (first | exact RV.tmp rfl | exact RV.cell1 hT rfl rfl rfl (by (exact Rd1.row (by (repeat (first | exact Pick.head | apply Pick.tail | apply Pick.app))) (by rfl))) | exact RV.cellN hT rfl rfl rfl (by (first | exact RdN.rowAll (by (repeat (first | exact Pick.head | apply Pick.tail | apply Pick.app))) | exact RdN.own (by (repeat (first | exact Pick.head | apply Pick.tail | apply Pick.app))))) (by (first | rfl | assumption | (simp; done) | omega)))) ?_
  exact ⟨sa, sc, pa, pc, hok.dies, ⟨rfl, rfl⟩, rfl⟩
  -- UNUSED OPTIONS: call t34, val
theorem do_does (d : Nat) (D D2 : Dk) (f : FuncId) (hent : Ent prog f) (cs : List Value) (r : List HProp) (hna : ¬ (D.armed = true ∧ D.left = 0))
    (hcl : Fc prog E f cs.toArray (disk d D.does :: r) (fun _ l' => l' = disk d D2 :: r)) :
    Fc prog E 63 [Value.pointer (some ⟨d, 0, none⟩), .func (.func f) #[] cs.toArray].toArray (disk d D :: r) (fun v l' => v = .int .i64 0 ∧ l' = disk d D2 :: r) := by
  cases ha : D.armed with
  | true =>
    have h0 : ¬ D.left = 0 := fun e => hna ⟨ha, e⟩
    have hd : decide (D.left = 0) = false := decide_eq_false h0
    refine Fc.of_body (c := ?c) Try.func63 ?hb Try.ntmps63 ?hl ?_
    case hb => exact rfl
    case hl => exact rfl
    refine J.disk fun sa sc pa pc hok => ?_
    refine J.seq ?_
    refine J.region ?_
    refine JL.step (y_assign rfl) rfl rfl rfl ?_
    refine JL.nil ?_
    refine JE.then_normal ?_
    refine J.seq ?_
    refine J.seq ?_
    refine J.region ?_
    refine JL.step (y_move rfl) rfl rfl rfl ?_
    refine JL.step ((by first | exact y_nilCheck rfl | exact y_nilCheckF rfl | exact y_nilCheckY rfl)) rfl rfl rfl ?_
    refine JL.step (y_fieldAddr hT rfl rfl rfl rfl rfl rfl) rfl rfl rfl ?_
    refine JL.step (y_load1 hT rfl rfl rfl (by (exact Rd1.row (by (repeat (first | exact Pick.head | apply Pick.tail | apply Pick.app))) (by rfl)))) rfl rfl rfl ?_
    refine JL.nil ?_
    refine JE.then_normal ?_
    refine J.cond_t rfl (by (first | rfl | assumption | (simp; done) | (simp; omega))) ?_
    refine J.seq ?_
    refine J.seq ?_
    refine J.region ?_
    refine JL.step (y_move rfl) rfl rfl rfl ?_
    refine JL.step ((by first | exact y_nilCheck rfl | exact y_nilCheckF rfl | exact y_nilCheckY rfl)) rfl rfl rfl ?_
    refine JL.step (y_fieldAddr hT rfl rfl rfl rfl rfl rfl) rfl rfl rfl ?_
    refine JL.step (y_load1 hT rfl rfl rfl (by (exact Rd1.row (by (repeat (first | exact Pick.head | apply Pick.tail | apply Pick.app))) (by rfl)))) rfl rfl rfl ?_
    refine JL.step (y_eql rfl rfl) rfl rfl rfl ?_
    refine JL.nil ?_
    refine JE.then_normal ?_
    refine J.cond_f rfl (by (first | rfl | assumption | (simp; done) | (simp; omega))) ?_
    refine J.skip ?_
    refine JE.then_normal ?_
    refine J.region ?_
    refine JL.step (y_move rfl) rfl rfl rfl ?_
    refine JL.step ((by first | exact y_nilCheck rfl | exact y_nilCheckF rfl | exact y_nilCheckY rfl)) rfl rfl rfl ?_
    refine JL.step (y_fieldAddr hT rfl rfl rfl rfl rfl rfl) rfl rfl rfl ?_
    refine JL.step (y_load1 hT rfl rfl rfl (by (exact Rd1.row (by (repeat (first | exact Pick.head | apply Pick.tail | apply Pick.app))) (by rfl)))) rfl rfl rfl ?_
    refine JL.step (y_sub rfl rfl rfl) rfl rfl rfl ?_
    refine JL.step ((by first | exact y_nilCheck rfl | exact y_nilCheckF rfl | exact y_nilCheckY rfl)) rfl rfl rfl ?_
    refine JL.step (y_fieldAddr hT rfl rfl rfl rfl rfl rfl) rfl rfl rfl ?_
    refine JL.loud rfl (l_store1 hT rfl rfl rfl rfl rfl (by (repeat (first | exact Pick.head | apply Pick.tail | apply Pick.app))) (by (first | omega | exact Nat.le_of_ble_eq_true rfl | decide | (simp; omega))) ?_)
    refine JL.nil ?_
    refine JE.then_normal ?_
    refine J.seq ?_
    refine J.region ?_
    refine JL.step (y_move rfl) rfl rfl rfl ?_
    refine JL.step ((by first | exact y_nilCheck rfl | exact y_nilCheckF rfl | exact y_nilCheckY rfl)) rfl rfl rfl ?_
    refine JL.step (y_fieldAddr hT rfl rfl rfl rfl rfl rfl) rfl rfl rfl ?_
    refine JL.step (y_load1 hT rfl rfl rfl (by (exact Rd1.row (by (repeat (first | exact Pick.head | apply Pick.tail | apply Pick.app))) (by rfl)))) rfl rfl rfl ?_
    refine JL.step (y_add rfl rfl rfl) rfl rfl rfl ?_
    refine JL.step ((by first | exact y_nilCheck rfl | exact y_nilCheckF rfl | exact y_nilCheckY rfl)) rfl rfl rfl ?_
    refine JL.step (y_fieldAddr hT rfl rfl rfl rfl rfl rfl) rfl rfl rfl ?_
    refine JL.loud rfl (l_store1 hT rfl rfl rfl rfl rfl (by (repeat (first | exact Pick.head | apply Pick.tail | apply Pick.app))) (by (first | omega | exact Nat.le_of_ble_eq_true rfl | decide | (simp; omega))) ?_)
    refine JL.nil ?_
    refine JE.then_normal ?_
    refine J.seq ?_
    refine J.region ?_
    refine JL.step (y_move rfl) rfl rfl rfl ?_
    refine JL.loud rfl (l_callV hent rfl rfl rfl ((hcl.imp fun w s => disk_shut (D := D.does) (sa := sa) (sc := sc) (pa := pa) (pc := pc) hok.does (by simpa [dcells, Dk.does, ha] using s))) ?_)
    rintro _ _ rfl
    refine JL.nil ?_
    refine JE.then_normal ?_
    refine J.seq ?_
    refine J.region ?_
    refine JL.step (y_assign rfl) rfl rfl rfl ?_
    refine JL.nil ?_
    refine JE.then_normal ?_
    refine J.ret ?_
    refine JE.ret1 (.inl rfl) rfl rfl (by (first | exact RV.tmp rfl | exact RV.cell1 hT rfl rfl rfl (by (exact Rd1.row (by (repeat (first | exact Pick.head | apply Pick.tail | apply Pick.app))) (by rfl))) | exact RV.cellN hT rfl rfl rfl (by (first | exact RdN.rowAll (by (repeat (first | exact Pick.head | apply Pick.tail | apply Pick.app))) | exact RdN.own (by (repeat (first | exact Pick.head | apply Pick.tail | apply Pick.app))))) (by (first | rfl | assumption | (simp; done) | omega)))) ?_
    exact ⟨rfl, rfl⟩
  | false =>
    refine Fc.of_body (c := ?c) Try.func63 ?hb Try.ntmps63 ?hl ?_
    case hb => exact rfl
    case hl => exact rfl
    refine J.disk fun sa sc pa pc hok => ?_
    refine J.seq ?_
    refine J.region ?_
    refine JL.step (y_assign rfl) rfl rfl rfl ?_
    refine JL.nil ?_
    refine JE.then_normal ?_
    refine J.seq ?_
    refine J.seq ?_
    refine J.region ?_
    refine JL.step (y_move rfl) rfl rfl rfl ?_
    refine JL.step ((by first | exact y_nilCheck rfl | exact y_nilCheckF rfl | exact y_nilCheckY rfl)) rfl rfl rfl ?_
    refine JL.step (y_fieldAddr hT rfl rfl rfl rfl rfl rfl) rfl rfl rfl ?_
    refine JL.step (y_load1 hT rfl rfl rfl (by (exact Rd1.row (by (repeat (first | exact Pick.head | apply Pick.tail | apply Pick.app))) (by rfl)))) rfl rfl rfl ?_
    refine JL.nil ?_
    refine JE.then_normal ?_
    refine J.cond_f rfl (by (first | rfl | assumption | (simp; done) | (simp; omega))) ?_
    refine J.skip ?_
    refine JE.then_normal ?_
    refine J.seq ?_
    refine J.region ?_
    refine JL.step (y_move rfl) rfl rfl rfl ?_
    refine JL.step ((by first | exact y_nilCheck rfl | exact y_nilCheckF rfl | exact y_nilCheckY rfl)) rfl rfl rfl ?_
    refine JL.step (y_fieldAddr hT rfl rfl rfl rfl rfl rfl) rfl rfl rfl ?_
    refine JL.step (y_load1 hT rfl rfl rfl (by (exact Rd1.row (by (repeat (first | exact Pick.head | apply Pick.tail | apply Pick.app))) (by rfl)))) rfl rfl rfl ?_
    refine JL.step (y_add rfl rfl rfl) rfl rfl rfl ?_
    refine JL.step ((by first | exact y_nilCheck rfl | exact y_nilCheckF rfl | exact y_nilCheckY rfl)) rfl rfl rfl ?_
    refine JL.step (y_fieldAddr hT rfl rfl rfl rfl rfl rfl) rfl rfl rfl ?_
    refine JL.loud rfl (l_store1 hT rfl rfl rfl rfl rfl (by (repeat (first | exact Pick.head | apply Pick.tail | apply Pick.app))) (by (first | omega | exact Nat.le_of_ble_eq_true rfl | decide | (simp; omega))) ?_)
    refine JL.nil ?_
    refine JE.then_normal ?_
    refine J.seq ?_
    refine J.region ?_
    refine JL.step (y_move rfl) rfl rfl rfl ?_
    refine JL.loud rfl (l_callV hent rfl rfl rfl ((hcl.imp fun w s => disk_shut (D := D.does) (sa := sa) (sc := sc) (pa := pa) (pc := pc) hok.does (by simpa [dcells, Dk.does, ha] using s))) ?_)
    rintro _ _ rfl
    refine JL.nil ?_
    refine JE.then_normal ?_
    refine J.seq ?_
    refine J.region ?_
    refine JL.step (y_assign rfl) rfl rfl rfl ?_
    refine JL.nil ?_
    refine JE.then_normal ?_
    refine J.ret ?_
    refine JE.ret1 (.inl rfl) rfl rfl (by (first | exact RV.tmp rfl | exact RV.cell1 hT rfl rfl rfl (by (exact Rd1.row (by (repeat (first | exact Pick.head | apply Pick.tail | apply Pick.app))) (by rfl))) | exact RV.cellN hT rfl rfl rfl (by (first | exact RdN.rowAll (by (repeat (first | exact Pick.head | apply Pick.tail | apply Pick.app))) | exact RdN.own (by (repeat (first | exact Pick.head | apply Pick.tail | apply Pick.app))))) (by (first | rfl | assumption | (simp; done) | omega)))) ?_
    exact ⟨rfl, rfl⟩
/-- The pending writes that live. -/
def liveOn (lv : Nat → Bool) : List (Int × Blk) → Nat → List Blk → List Blk
  | [], _, s => s
  | p :: r, k, s => liveOn lv r (k + 1) (if lv k then s.set p.1.toNat p.2 else s)
def Dk.settle (D : Dk) (lv : Nat → Bool) : Dk := { D with safe := liveOn lv D.pending 0 D.safe, pending := [] }
theorem liveOn_length (lv : Nat → Bool) : ∀ (l : List (Int × Blk)) (k : Nat) (s : List Blk), (liveOn lv l k s).length = s.length
  | [], _, _ => rfl
  | p :: r, k, s => by simp only [liveOn]; rw [liveOn_length]; split <;> simp
theorem liveOn_blk (lv : Nat → Bool) : ∀ (l : List (Int × Blk)) (k : Nat) (s : List Blk), (∀ p ∈ l, p.2.length = 64) → (∀ b ∈ s, b.length = 64) → ∀ b ∈ liveOn lv l k s, b.length = 64
  | [], _, _, _, hs => hs
  | p :: r, k, s, hl, hs => by
    simp only [liveOn]
    refine liveOn_blk lv r _ _ (fun q hq => hl q (by simp [hq])) ?_
    split
    · intro b hb
      rcases List.mem_or_eq_of_mem_set hb with h | h
      · exact hs b h
      · subst h; exact hl p (by simp)
    · exact hs
theorem Dk.Ok.settle {D : Dk} (h : D.Ok) (lv : Nat → Bool) : (D.settle lv).Ok :=
  ⟨liveOn_blk lv _ _ _ (fun p hp => (h.pend p hp).1) h.safe, fun p hp => by simp [Dk.settle] at hp, by simp only [Dk.settle, liveOn_length]; exact h.some, by simp only [Dk.settle, liveOn_length]; exact h.most, h.left⟩
structure SetI (D : Dk) (lv : Nat → Bool) (s : Nat × List Blk) : Prop where
  le : s.1 ≤ D.pending.length
  len : s.2.length = D.safe.length
  blk : ∀ b ∈ s.2, b.length = 64
  on : liveOn lv (D.pending.drop s.1) s.1 s.2 = liveOn lv D.pending 0 D.safe
theorem SetI.next {D : Dk} {lv : Nat → Bool} {s : Nat × List Blk} (h : SetI D lv s) (hok : D.Ok) {p : Int × Blk} (hp : D.pending[s.1]? = some p) : SetI D lv (s.1 + 1, if lv s.1 then s.2.set p.1.toNat p.2 else s.2) := by
  have hlt : s.1 < D.pending.length := by
    rcases Nat.lt_or_ge s.1 D.pending.length with h | h
    · exact h
    · simp [List.getElem?_eq_none h] at hp
  have hm := List.mem_of_getElem? hp
  refine ⟨hlt, by dsimp only; split <;> simp [h.len], ?_, ?_⟩
  · dsimp only
    split
    · intro b hb
      rcases List.mem_or_eq_of_mem_set hb with hb | hb
      · exact h.blk b hb
      · subst hb; exact (hok.pend p hm).1
    · exact h.blk
  · have := h.on
    rw [List.drop_eq_getElem_cons hlt] at this
    rw [List.getElem?_eq_getElem hlt] at hp
    cases hp
    exact this
theorem settle_spec (d : Nat) (D : Dk) (f : FuncId) (hent : Ent prog f) (cs : List Value) (r : List HProp) (lv : Nat → Bool) (hpn : D.pending.length ≤ 1000000)
    (hlv : ∀ m i, i < D.pending.length → Fc prog E f ([Value.int .i64 (i : Nat)] ++ cs).toArray (m ++ r) (fun v l' => v = .bool (lv i) ∧ l' = m ++ r)) :
    Fc prog E 65 [Value.pointer (some ⟨d, 0, none⟩), .func (.func f) #[] cs.toArray].toArray (disk d D :: r) (fun v l' => v = .tuple #[] ∧ l' = disk d (D.settle lv) :: r) := by
  refine Fc.eqs ?_
  refine Fc.of_body (c := ?c) Try.func65 ?hb Try.ntmps65 ?hl ?_
  case hb => exact rfl
  case hl => exact rfl
  refine J.disk fun sa sc pa pc hok => ?_
  refine J.picks (Pick.tail (Pick.tail Pick.head)) ?_
  refine J.own_addr fun gp hgp hpc => ?_
  refine J.picks (Pick.tail (Pick.tail Pick.head)) ?_
  refine J.owns (fun _ h0 _ => by have := hok.some; omega) fun gs cap sp hv hsc hm hl hfull => ?_
  simp only [Value.slice.injEq] at hv
  obtain ⟨rfl, _, rfl⟩ := hv
  refine J.seq ?_
  refine J.seq ?_
  refine J.region ?_
  refine JL.step (y_move rfl) rfl rfl rfl ?_
  refine JL.step ((by first | exact y_nilCheck rfl | exact y_nilCheckF rfl | exact y_nilCheckY rfl)) rfl rfl rfl ?_
  refine JL.step (y_fieldAddr hT rfl rfl rfl rfl rfl rfl) rfl rfl rfl ?_
  refine JL.step (y_load1 hT rfl rfl rfl (by (exact Rd1.row (by (repeat (first | exact Pick.head | apply Pick.tail | apply Pick.app))) (by rfl)))) rfl rfl rfl ?_
  refine JL.step (y_len_slice hT rfl rfl rfl) rfl rfl rfl (JL.step (y_move rfl) rfl rfl rfl ?_)
  refine JL.nil ?_
  refine JE.then_normal ?_
  refine J.block ?_
  refine J.loop (α := Nat × List Blk) (SetI D lv) (fun s => [(0, .pointer (some ⟨d, 0, none⟩)), (1, .func (.func f) #[] cs.toArray), (9, .slice pa D.pending.length pc), (10, .int .i64 D.pending.length), (11, .int .i64 s.1)]) (fun s => row gs 27 (s.2.flatMap encB ++ sp) :: own 113 65 (.slice pa D.pending.length pc) D.pending.length (D.pending.flatMap encW) :: row d 102 (dcells D (some ⟨gs, 0, none⟩) sc pa pc) :: r) (fun s => D.pending.length - s.1) (0, D.safe) ⟨by omega, rfl, hok.safe, rfl⟩ ⟨rfl, rfl, rfl, rfl, rfl, trivial⟩ (fun w h => h) ?_
  rintro ⟨k, s⟩ hI
  dsimp only
  refine J.seq ?_
  refine J.region ?_
  refine JL.step (y_lss rfl rfl) rfl rfl rfl ?_
  refine JL.nil ?_
  refine JE.then_normal ?_
  refine J.seq ?_
  first | apply J.cond_dec rfl | apply J.cond rfl
  case' ht =>
    intro h
    try (first | (exfalso; omega) | (cases h; done) | (exfalso; simp at h; done) | subst h)
    all_goals
      refine J.skip ?_
  case' hf =>
    intro h
    try (first | (exfalso; omega) | (cases h; done) | (exfalso; simp at h; done) | subst h)
    all_goals
      refine J.exit ?_
      refine JE.then_exit ?_
      refine JE.then_exit ?_
      refine JE.block_exit ?_
      refine JE.then_normal ?_
      refine J.region ?_
      refine JL.step (y_move rfl) rfl rfl rfl ?_
      refine JL.step ((by first | exact y_nilCheck rfl | exact y_nilCheckF rfl | exact y_nilCheckY rfl)) rfl rfl rfl ?_
      refine JL.step (y_fieldAddr hT rfl rfl rfl rfl rfl rfl) rfl rfl rfl ?_
      refine JL.loud rfl (l_store1 hT rfl rfl rfl rfl rfl (by (repeat (first | exact Pick.head | apply Pick.tail | apply Pick.app))) (by (first | omega | exact Nat.le_of_ble_eq_true rfl | decide | (simp; omega))) ?_)
      refine JL.nil ?_
      refine JE.ret0 (.inr rfl) rfl rfl  ?_
      refine ⟨rfl, fun w q => ?_⟩
      have hk : k = D.pending.length := by have := hI.le; dsimp only at this h; omega
      subst hk
      have hs : s = liveOn lv D.pending 0 D.safe := by have := hI.on; rwa [List.drop_length] at this
      have hlen : s.length = D.safe.length := hI.len
      have q1 := (q.pick (Pick.tail (Pick.tail Pick.head))).drop
      have hseg : (s.flatMap encB).length = s.length * 64 := seg_len (fun b hb => by rw [encB_length]; exact hI.blk b hb)
      have q2 := (q1.pick (Pick.tail Pick.head)).owned (m := s.length) (cap := sc) (size := 64) (by omega) hm hseg (by rw [List.length_append] at hfull ⊢; rw [hseg, hlen]; omega)
      have q3 := (q2.own_nil (e := 113) (size := 65)).divide (Split.cons (Pick.tail (Pick.tail Pick.head)) (Split.cons (Pick.tail Pick.head) (Split.cons Pick.head Split.nil)))
      refine disk_shut (D := D.settle lv) (sa := some ⟨gs, 0, none⟩) (sc := sc) (pa := none) (pc := 0) (hok.settle lv) ?_
      have e : (D.settle lv).safe = s := hs.symm
      rw [e]
      have e2 : dcells (D.settle lv) (some ⟨gs, 0, none⟩) sc none 0 = (dcells D (some ⟨gs, 0, none⟩) sc pa pc).set 1 (.slice none 0 0) := by
        simp only [dcells, liveOn_length, Dk.settle, List.length_nil, List.set_cons_succ, List.set_cons_zero]
      rw [e2]
      exact q3
  all_goals refine JE.then_normal ?_
  all_goals
    refine J.seq ?_
    refine J.block ?_
    refine J.seq ?_
    refine J.region ?_
    refine JL.step (y_move rfl) rfl rfl rfl ?_
    obtain rfl := hgp (by omega)
    obtain ⟨p, hp⟩ : ∃ p, D.pending[k]? = some p := ⟨_, List.getElem?_eq_getElem (by omega)⟩
    have hpo := hok.pend p (List.mem_of_getElem? hp)
    have hWl : (encW p).length = 65 := by simp [encW, hpo.1]
    have hBl : (encB p.2).length = 64 := by simp [hpo.1]
    have hseg : (s.flatMap encB).length = s.length * 64 := seg_len (fun b hb => by rw [encB_length]; exact hI.blk b hb)
    have hlen : s.length = D.safe.length := hI.len
    have hfit : 0 + p.1.toNat * i27.size + (encB p.2).length ≤ (s.flatMap encB ++ sp).length := by
      rw [hBl, List.length_append, hseg, hlen, show i27.size = 64 from rfl]
      omega
    refine JL.step (y_indexAddr_slice hT rfl rfl rfl rfl rfl (by (first | omega | exact Nat.le_of_ble_eq_true rfl | decide | (simp; omega))) (by (first | omega | exact Nat.le_of_ble_eq_true rfl | decide | (simp; omega)))) rfl rfl rfl ?_
    refine JL.step (y_loadN hT rfl rfl rfl ((RdN.own (by (repeat (first | exact Pick.head | apply Pick.tail | apply Pick.app)))).elem hok.segW hp) hWl) rfl rfl rfl ?_
    refine JL.loud rfl (l_alloc hT rfl rfl (by (first | rfl | simp)) rfl (fun b2 => ?_))
    refine JL.step (y_assign rfl) rfl rfl rfl ?_
    refine JL.loud rfl (l_storeAll hT rfl rfl rfl (by (first | rfl | assumption | (simp; done) | omega)) (by (first | assumption | exact ones_of rfl | exact encW_one _ | exact encB_one _ | (intro u hu; simp at hu; rcases hu with rfl | rfl <;> rfl) | (intro u hu; simp at hu; subst hu; rfl) | simp)) (by (repeat (first | exact Pick.head | apply Pick.tail | apply Pick.app))) (by (first | rfl | assumption | (simp; done) | omega)) ?_)
    refine JL.nil ?_
    refine JE.then_normal ?_
    refine J.seq ?_
    refine J.region ?_
    refine JL.step (y_move rfl) rfl rfl rfl (JL.step (y_move rfl) rfl rfl rfl ?_)
    refine JL.loud rfl (l_callV hent rfl rfl rfl (hlv (_ :: _ :: _ :: _ :: []) k (by omega)) ?_)
    rintro _ _ ⟨rfl, rfl⟩
    refine JL.nil ?_
    refine JE.then_normal ?_
    first | apply J.cond_dec rfl | apply J.cond rfl
    case' ht =>
      intro h
      try (first | (exfalso; omega) | (cases h; done) | (exfalso; simp at h; done) | subst h)
      all_goals
        refine J.draw _ _ [(0, .q), (1, .q), (2, .q), (3, .q), (4, .q), (5, .q), (6, .q), (7, .q), (8, .q), (9, .l)] mixed (by kernel_rfl) (Split.cons (Pick.tail Pick.head) (Split.nil)) ?_
        refine JM.quiet rfl rfl rfl rfl (fun m => y_move rfl) ?_
        refine JM.quiet rfl rfl rfl rfl (fun m => (by first | exact y_nilCheck rfl | exact y_nilCheckF rfl | exact y_nilCheckY rfl)) ?_
        refine JM.quiet rfl rfl rfl rfl (fun m => y_fieldAddr hT rfl rfl rfl rfl rfl rfl) ?_
        refine JM.quiet rfl rfl rfl rfl (fun m => y_load1 hT rfl rfl rfl (by (exact Rd1.row (Pick.app m (by (repeat (first | exact Pick.head | apply Pick.tail | apply Pick.app)))) (by rfl)))) ?_
        refine JM.quiet rfl rfl rfl rfl (fun m => y_fieldAddr hT rfl rfl rfl rfl rfl rfl) ?_
        refine JM.quiet rfl rfl rfl rfl (fun m => y_load1 hT rfl rfl rfl (by (exact Rd1.row (Pick.app m (by (repeat (first | exact Pick.head | apply Pick.tail | apply Pick.app)))) (by rfl)))) ?_
        refine JM.quiet rfl rfl rfl rfl (fun m => y_fieldAddr hT rfl rfl rfl rfl rfl rfl) ?_
        refine JM.quiet rfl rfl rfl rfl (fun m => y_loadN hT rfl rfl rfl (RdN.row (n := 64) (vs := encB p.2) (Pick.app m (by (repeat (first | exact Pick.head | apply Pick.tail | apply Pick.app)))) (by simp [encW, List.take_of_length_le, hpo.1])) hBl) ?_
        refine JM.quiet rfl rfl rfl rfl (fun m => y_indexAddr_slice hT rfl rfl rfl rfl rfl (by (first | omega | exact Nat.le_of_ble_eq_true rfl | decide | (simp; omega))) (by (first | omega | exact Nat.le_of_ble_eq_true rfl | decide | (simp; omega)))) ?_
        refine JM.loud rfl rfl (fun fr => l_storeN hT rfl rfl rfl hBl (encB_one _) Pick.head hfit ⟨[_], (by (repeat (first | exact Split.nil | exact Split.all | refine Split.cons Pick.head ?_))), ?_⟩)
        refine JM.nil ?_
    case' hf =>
      intro h
      try (first | (exfalso; omega) | (cases h; done) | (exfalso; simp at h; done) | subst h)
      all_goals
        refine J.skip ?_
    all_goals refine JE.block_normal ?_
    all_goals refine JE.then_normal ?_
    all_goals
      refine J.region ?_
      refine JL.step (y_add rfl rfl (by (first | exact wrap_i64 (by omega) (by omega) | rfl))) rfl rfl rfl ?_
      refine JL.step (y_move rfl) rfl rfl rfl ?_
      refine JL.nil ?_
  all_goals
    by_cases hb : lv k = true
    · try (exfalso; rw [h] at hb; exact Bool.false_ne_true hb)
      all_goals
        refine JE.round (s := (k, s)) (k + 1, s.set p.1.toNat p.2) (by have := hI.next hok hp; rwa [if_pos hb] at this) ⟨rfl, rfl, rfl, rfl, rfl, trivial⟩ (fun w q => ?_) (by omega)
        have e := seg_set (enc := encB) (sp := sp) (xs := s) (i := p.1.toNat) (y := p.2) (fun b hb => by rw [encB_length]; exact hI.blk b hb) (by omega)
        rw [hBl, Nat.zero_add] at q
        rw [← e]
        exact (q.pick (Pick.tail Pick.head)).drop
    · try (exfalso; exact hb h)
      all_goals
        refine JE.round (s := (k, s)) (k + 1, s) (by have := hI.next hok hp; rwa [if_neg hb] at this) ⟨rfl, rfl, rfl, rfl, rfl, trivial⟩ (fun w q => ?_) (by omega)
        exact q.drop
def Dk.sync (D : Dk) : Dk × Int := if D.dead then (D, 7) else if D.armed ∧ D.left = 0 then (D.dies, 7) else (D.does.settle (fun _ => true), 0)
theorem yes_spec (l : List HProp) (v : Value) : Fc prog E 66 [v].toArray l (fun u l' => u = .bool true ∧ l' = l) := by
  refine Fc.of_body (c := ?c) Try.func66 ?hb Try.ntmps66 ?hl ?_
  case hb => exact rfl
  case hl => exact rfl
  refine J.seq ?_
  refine J.region ?_
  refine JL.step (y_assign rfl) rfl rfl rfl ?_
  refine JL.nil ?_
  refine JE.then_normal ?_
  refine J.seq ?_
  refine J.region ?_
  refine JL.step (y_assign rfl) rfl rfl rfl ?_
  refine JL.nil ?_
  refine JE.then_normal ?_
  refine J.ret ?_
  refine JE.ret1 (.inl rfl) rfl rfl (by (first | exact RV.tmp rfl | exact RV.cell1 hT rfl rfl rfl (by (exact Rd1.row (by (repeat (first | exact Pick.head | apply Pick.tail | apply Pick.app))) (by rfl))) | exact RV.cellN hT rfl rfl rfl (by (first | exact RdN.rowAll (by (repeat (first | exact Pick.head | apply Pick.tail | apply Pick.app))) | exact RdN.own (by (repeat (first | exact Pick.head | apply Pick.tail | apply Pick.app))))) (by (first | rfl | assumption | (simp; done) | omega)))) ?_
  exact ⟨rfl, rfl⟩
theorem sync1_spec (b d : Nat) (D : Dk) (r : List HProp) (hpn : D.pending.length ≤ 1000000) :
    Fc prog E 64 [Value.pointer (some ⟨b, 0, none⟩)].toArray (disk d D :: row b 24 [.pointer (some ⟨d, 0, none⟩)] :: r) (fun _ l' => l' = disk d (D.settle (fun _ => true)) :: row b 24 [.pointer (some ⟨d, 0, none⟩)] :: r) := by
  refine Fc.of_body (c := ?c) Try.func64 ?hb Try.ntmps64 ?hl ?_
  case hb => exact rfl
  case hl => exact rfl
  refine J.region ?_
  refine JL.step (y_load1 hT rfl rfl rfl (by (exact Rd1.row (by (repeat (first | exact Pick.head | apply Pick.tail | apply Pick.app))) (by rfl)))) rfl rfl rfl ?_
  refine JL.loud rfl (l_callF e65 rfl rfl (settle_spec E d D 66 e66 [] _ (fun _ => true) hpn (fun m i _ => yes_spec E _ _)) ?_)
  rintro _ _ ⟨rfl, rfl⟩
  refine JL.nil ?_
  all_goals
    refine JE.ret0 (.inr rfl) rfl rfl  ?_
    rfl
theorem ready0 {D : Dk} (h : D.Ok) : D.ready 0 = if D.dead then 7 else 0 := by
  have := h.some
  have h' : ¬ ((0 : Int) < 0 ∨ (D.safe.length : Int) ≤ 0) := by omega
  simp only [Dk.ready, h', if_false]
theorem sync_spec (d : Nat) (D : Dk) (r : List HProp) (hpn : D.pending.length ≤ 1000000) :
    Fc prog E 32 [Value.pointer (some ⟨d, 0, none⟩)].toArray (disk d D :: r) (fun v l' => v = .int .i64 D.sync.2 ∧ l' = disk d D.sync.1 :: r) := by
  refine disk_okd fun hok => Fc.eqs ?_
  have hr := ready0 hok
  by_cases hd : D.dead = true
  · simp only [hd, if_true] at hr
    simp only [Dk.sync, hd, if_true]
    refine Fc.of_body (c := ?c) Try.func32 ?hb Try.ntmps32 ?hl ?_
    case hb => exact rfl
    case hl => exact rfl
    refine J.seq ?_
    refine J.region ?_
    refine JL.loud rfl (l_box rfl (by (first | rfl | simp)) rfl (fun b1 => ?_))
    refine JL.step (y_assign rfl) rfl rfl rfl ?_
    refine JL.nil ?_
    refine JE.then_normal ?_
    refine J.seq ?_
    refine J.seq ?_
    refine J.region ?_
    refine JL.step (y_load1 hT rfl rfl rfl (by (exact Rd1.row (by (repeat (first | exact Pick.head | apply Pick.tail | apply Pick.app))) (by rfl)))) rfl rfl rfl ?_
    refine JL.loud rfl (l_callF e61 rfl rfl ((ready_spec E d D 0 _).split (Split.cons (by (repeat (first | exact Pick.head | apply Pick.tail | apply Pick.app))) Split.nil)) ?_)
    rintro _ _ ⟨rfl, rfl⟩
    refine JL.step (y_assign rfl) rfl rfl rfl ?_
    refine JL.nil ?_
    refine JE.then_normal ?_
    refine J.seq ?_
    rw [hr]
    refine J.region ?_
    refine JL.step (y_move rfl) rfl rfl rfl (JL.step (y_neq rfl rfl) rfl rfl rfl ?_)
    refine JL.nil ?_
    refine JE.then_normal ?_
    refine J.cond_t rfl (by (first | rfl | assumption | (simp; done) | (simp; omega))) ?_
    refine J.seq ?_
    refine J.region ?_
    refine JL.step (y_move rfl) rfl rfl rfl (JL.step (y_assign rfl) rfl rfl rfl ?_)
    refine JL.nil ?_
    refine JE.then_normal ?_
    refine J.ret ?_
    refine JE.then_ret ?_
    refine JE.ret1 (.inl rfl) rfl rfl (by (first | exact RV.tmp rfl | exact RV.cell1 hT rfl rfl rfl (by (exact Rd1.row (by (repeat (first | exact Pick.head | apply Pick.tail | apply Pick.app))) (by rfl))) | exact RV.cellN hT rfl rfl rfl (by (first | exact RdN.rowAll (by (repeat (first | exact Pick.head | apply Pick.tail | apply Pick.app))) | exact RdN.own (by (repeat (first | exact Pick.head | apply Pick.tail | apply Pick.app))))) (by (first | rfl | assumption | (simp; done) | omega)))) ?_
    exact ⟨rfl, fun w q => (q.pick (Pick.tail Pick.head)).drop⟩
  · simp only [hd] at hr
    simp only [Dk.sync, hd]
    by_cases ha : D.armed = true ∧ D.left = 0
    · simp only [ha, and_self, if_true]
      refine Fc.of_body (c := ?c) Try.func32 ?hb Try.ntmps32 ?hl ?_
      case hb => exact rfl
      case hl => exact rfl
      refine J.seq ?_
      refine J.region ?_
      refine JL.loud rfl (l_box rfl (by (first | rfl | simp)) rfl (fun b1 => ?_))
      refine JL.step (y_assign rfl) rfl rfl rfl ?_
      refine JL.nil ?_
      refine JE.then_normal ?_
      refine J.seq ?_
      refine J.seq ?_
      refine J.region ?_
      refine JL.step (y_load1 hT rfl rfl rfl (by (exact Rd1.row (by (repeat (first | exact Pick.head | apply Pick.tail | apply Pick.app))) (by rfl)))) rfl rfl rfl ?_
      refine JL.loud rfl (l_callF e61 rfl rfl ((ready_spec E d D 0 _).split (Split.cons (by (repeat (first | exact Pick.head | apply Pick.tail | apply Pick.app))) Split.nil)) ?_)
      rintro _ _ ⟨rfl, rfl⟩
      refine JL.step (y_assign rfl) rfl rfl rfl ?_
      refine JL.nil ?_
      refine JE.then_normal ?_
      refine J.seq ?_
      rw [hr]
      refine J.region ?_
      refine JL.step (y_move rfl) rfl rfl rfl (JL.step (y_neq rfl rfl) rfl rfl rfl ?_)
      refine JL.nil ?_
      refine JE.then_normal ?_
      refine J.cond_f rfl (by (first | rfl | assumption | (simp; done) | (simp; omega))) ?_
      refine J.skip ?_
      refine JE.then_normal ?_
      refine J.seq ?_
      refine J.region ?_
      refine JL.step (y_load1 hT rfl rfl rfl (by (exact Rd1.row (by (repeat (first | exact Pick.head | apply Pick.tail | apply Pick.app))) (by rfl)))) rfl rfl rfl ?_
      refine JL.step (y_makeFunc rfl rfl) rfl rfl rfl ?_
      refine JL.loud rfl (l_callF e63 rfl rfl ((do_dies E d D _ _ _ ha.1 ha.2).split (Split.cons (by (repeat (first | exact Pick.head | apply Pick.tail | apply Pick.app))) Split.nil)) ?_)
      rintro _ _ ⟨rfl, rfl⟩
      refine JL.step (y_assign rfl) rfl rfl rfl ?_
      refine JL.nil ?_
      refine JE.then_normal ?_
      refine J.ret ?_
      refine JE.ret1 (.inl rfl) rfl rfl (by (first | exact RV.tmp rfl | exact RV.cell1 hT rfl rfl rfl (by (exact Rd1.row (by (repeat (first | exact Pick.head | apply Pick.tail | apply Pick.app))) (by rfl))) | exact RV.cellN hT rfl rfl rfl (by (first | exact RdN.rowAll (by (repeat (first | exact Pick.head | apply Pick.tail | apply Pick.app))) | exact RdN.own (by (repeat (first | exact Pick.head | apply Pick.tail | apply Pick.app))))) (by (first | rfl | assumption | (simp; done) | omega)))) ?_
      exact ⟨rfl, fun w q => (q.pick (Pick.tail Pick.head)).drop⟩
    · simp only [ha, if_false]
      refine Fc.of_body (c := ?c) Try.func32 ?hb Try.ntmps32 ?hl ?_
      case hb => exact rfl
      case hl => exact rfl
      refine J.seq ?_
      refine J.region ?_
      refine JL.loud rfl (l_box rfl (by (first | rfl | simp)) rfl (fun b1 => ?_))
      refine JL.step (y_assign rfl) rfl rfl rfl ?_
      refine JL.nil ?_
      refine JE.then_normal ?_
      refine J.seq ?_
      refine J.seq ?_
      refine J.region ?_
      refine JL.step (y_load1 hT rfl rfl rfl (by (exact Rd1.row (by (repeat (first | exact Pick.head | apply Pick.tail | apply Pick.app))) (by rfl)))) rfl rfl rfl ?_
      refine JL.loud rfl (l_callF e61 rfl rfl ((ready_spec E d D 0 _).split (Split.cons (by (repeat (first | exact Pick.head | apply Pick.tail | apply Pick.app))) Split.nil)) ?_)
      rintro _ _ ⟨rfl, rfl⟩
      refine JL.step (y_assign rfl) rfl rfl rfl ?_
      refine JL.nil ?_
      refine JE.then_normal ?_
      refine J.seq ?_
      rw [hr]
      refine J.region ?_
      refine JL.step (y_move rfl) rfl rfl rfl (JL.step (y_neq rfl rfl) rfl rfl rfl ?_)
      refine JL.nil ?_
      refine JE.then_normal ?_
      refine J.cond_f rfl (by (first | rfl | assumption | (simp; done) | (simp; omega))) ?_
      refine J.skip ?_
      refine JE.then_normal ?_
      refine J.seq ?_
      refine J.region ?_
      refine JL.step (y_load1 hT rfl rfl rfl (by (exact Rd1.row (by (repeat (first | exact Pick.head | apply Pick.tail | apply Pick.app))) (by rfl)))) rfl rfl rfl ?_
      refine JL.step (y_makeFunc rfl rfl) rfl rfl rfl ?_
      refine JL.loud rfl (l_callF e63 rfl rfl ((do_does E d D _ _ e64 [_] _ ha (sync1_spec E _ d D.does _ hpn)).split (Split.cons (by (repeat (first | exact Pick.head | apply Pick.tail | apply Pick.app))) Split.nil)) ?_)
      rintro _ _ ⟨rfl, rfl⟩
      refine JL.step (y_assign rfl) rfl rfl rfl ?_
      refine JL.nil ?_
      refine JE.then_normal ?_
      refine J.ret ?_
      refine JE.ret1 (.inl rfl) rfl rfl (by (first | exact RV.tmp rfl | exact RV.cell1 hT rfl rfl rfl (by (exact Rd1.row (by (repeat (first | exact Pick.head | apply Pick.tail | apply Pick.app))) (by rfl))) | exact RV.cellN hT rfl rfl rfl (by (first | exact RdN.rowAll (by (repeat (first | exact Pick.head | apply Pick.tail | apply Pick.app))) | exact RdN.own (by (repeat (first | exact Pick.head | apply Pick.tail | apply Pick.app))))) (by (first | rfl | assumption | (simp; done) | omega)))) ?_
      exact ⟨rfl, fun w q => (q.pick (Pick.tail Pick.head)).drop⟩
def Dk.push (D : Dk) (i : Int) (b : Blk) : Dk := { D with pending := D.pending ++ [(i, b)] }
theorem Dk.Ok.push {D : Dk} (h : D.Ok) {i : Int} {b : Blk} (hb : b.length = 64) (hi : 0 ≤ i ∧ i < D.safe.length) : (D.push i b).Ok :=
  ⟨h.safe, fun p hp => by
    simp only [Dk.push, List.mem_append, List.mem_singleton] at hp
    rcases hp with hp | rfl
    · exact h.pend p hp
    · exact ⟨hb, hi⟩, h.some, h.most, h.left⟩
theorem write1_spec (b0 b1 b2 d : Nat) (D : Dk) (i : Int) (b : Blk) (hb : b.length = 64) (hi : 0 ≤ i ∧ i < D.safe.length) (r : List HProp) (hpn : D.pending.length ≤ 1000000) :
    Fc prog E 77 [Value.pointer (some ⟨b0, 0, none⟩), .pointer (some ⟨b1, 0, none⟩), .pointer (some ⟨b2, 0, none⟩)].toArray
      (disk d D :: row b0 24 [.pointer (some ⟨d, 0, none⟩)] :: row b1 3 [.int .i64 i] :: row b2 27 (encB b) :: r)
      (fun _ l' => l' = disk d (D.push i b) :: row b0 24 [.pointer (some ⟨d, 0, none⟩)] :: row b1 3 [.int .i64 i] :: row b2 27 (encB b) :: r) := by
  refine Fc.post ?_
  have hBl : (encB b).length = 64 := by rw [encB_length]; exact hb
  have hWl : (encW (i, b)).length = 65 := by simp [encW, hb]
  refine Fc.of_body (c := ?c) Try.func77 ?hb Try.ntmps77 ?hl ?_
  case hb => exact rfl
  case hl => exact rfl
  refine J.disk fun sa sc pa pc hok => ?_
  refine J.draw _ _ [(0, .q), (1, .q), (2, .q), (3, .q), (5, .q), (6, .q), (7, .q), (4, .l), (8, .n), (9, .l), (10, .q), (11, .q), (12, .l)] mixed (by kernel_rfl) (Split.cons (Pick.head) (Split.cons (Pick.tail Pick.head) (Split.nil))) ?_
  refine JM.quiet rfl rfl rfl rfl (fun m => y_load1 hT rfl rfl rfl (by (exact Rd1.row (Pick.app m (by (repeat (first | exact Pick.head | apply Pick.tail | apply Pick.app)))) (by rfl)))) ?_
  refine JM.quiet rfl rfl rfl rfl (fun m => y_load1 hT rfl rfl rfl (by (exact Rd1.row (Pick.app m (by (repeat (first | exact Pick.head | apply Pick.tail | apply Pick.app)))) (by rfl)))) ?_
  refine JM.quiet rfl rfl rfl rfl (fun m => (by first | exact y_nilCheck rfl | exact y_nilCheckF rfl | exact y_nilCheckY rfl)) ?_
  refine JM.quiet rfl rfl rfl rfl (fun m => y_fieldAddr hT rfl rfl rfl rfl rfl rfl) ?_
  refine JM.quiet rfl rfl rfl rfl (fun m => y_load1 hT rfl rfl rfl (by (exact Rd1.row (Pick.app m (by (repeat (first | exact Pick.head | apply Pick.tail | apply Pick.app)))) (by rfl)))) ?_
  refine JM.quiet rfl rfl rfl rfl (fun m => y_loadN hT rfl rfl rfl (RdN.row (n := 64) (vs := encB b) (Pick.app m (by (repeat (first | exact Pick.head | apply Pick.tail | apply Pick.app)))) (by simp [List.take_of_length_le, hb])) hBl) ?_
  refine JM.quiet rfl rfl rfl rfl (fun m => y_build (cs := encW (i, b)) hT rfl rfl rfl rfl rfl rfl ⟨⟨rfl, Nat.le_of_ble_eq_true rfl⟩, ⟨hBl, Nat.le_of_ble_eq_true rfl⟩, trivial⟩ (fillE_two rfl hBl)) ?_
  refine JM.loud rfl rfl (fun fr => LS.ofY rfl rfl (y_load1 hT rfl rfl rfl (by (exact Rd1.row (by (repeat (first | exact Pick.head | apply Pick.tail | apply Pick.app))) (by rfl)))) ⟨[_, _], (by (repeat (first | exact Split.nil | exact Split.all | refine Split.cons Pick.head ?_))), ?_⟩)
  refine JM.lay rfl rfl rfl rfl (fun a hf => lays_buildSlice hT rfl rfl rfl rfl hf rfl rfl rfl (by (first | exact fill_one rfl (by first | assumption | rfl | (simp; done)) | rfl | simp))) (fun b1 => ?_)
  refine JM.loud rfl rfl (fun fr => l_append hT rfl rfl rfl rfl rfl rfl rfl rfl (by (repeat (first | exact Pick.head | apply Pick.tail | apply Pick.app))) (by (first | exact RdN.rowAll (by (repeat (first | exact Pick.head | apply Pick.tail | apply Pick.app))) | exact RdN.own (by (repeat (first | exact Pick.head | apply Pick.tail | apply Pick.app))))) (by (first | rfl | assumption | (simp; done) | omega)) (by (first | assumption | exact ones_of rfl | exact encW_one _ | exact encB_one _ | (intro u hu; simp at hu; rcases hu with rfl | rfl <;> rfl) | (intro u hu; simp at hu; subst hu; rfl) | simp)) (by (exact Nat.le_trans (Nat.mul_le_mul_left _ (Nat.le_of_ble_eq_true rfl : _ ≤ 4096)) (by omega))) (by (first | omega | exact Nat.le_of_ble_eq_true rfl | decide | (simp; omega))) rfl (fun ab2 cb2 hb2 => ⟨[_, _, _], (by (repeat (first | exact Split.nil | exact Split.all | refine Split.cons Pick.head ?_))), ?_⟩))
  refine JM.quiet rfl rfl rfl rfl (fun m => (by first | exact y_nilCheck rfl | exact y_nilCheckF rfl | exact y_nilCheckY rfl)) ?_
  refine JM.quiet rfl rfl rfl rfl (fun m => y_fieldAddr hT rfl rfl rfl rfl rfl rfl) ?_
  refine JM.loud rfl rfl (fun fr => l_store1 hT rfl rfl rfl rfl rfl (by (repeat (first | exact Pick.head | apply Pick.tail | apply Pick.app))) (by (first | omega | exact Nat.le_of_ble_eq_true rfl | decide | (simp; omega))) (⟨[_, _, _], (by (repeat (first | exact Split.nil | exact Split.all | refine Split.cons Pick.head ?_))), ?_⟩))
  refine JM.nil ?_
  all_goals
    refine JE.ret0 (.inr rfl) rfl rfl  ?_
    refine ⟨_, fun w q => ?_, rfl⟩
    refine disk_shut (D := D.push i b) (sa := sa) (sc := sc) (pa := ab2) (pc := cb2) (hok.push hb hi) ?_
    have e1 : (D.push i b).pending.length = D.pending.length + 1 := by simp [Dk.push]
    have e2 : (D.push i b).pending.flatMap encW = D.pending.flatMap encW ++ encW (i, b) := by simp [Dk.push]
    have e3 : dcells (D.push i b) sa sc ab2 cb2 = (dcells D sa sc pa pc).set 1 (.slice ab2 (D.pending.length + 1) cb2) := by simp [dcells, Dk.push]
    rw [e1, e2, e3]
    exact ((q.pick (Pick.tail (Pick.tail Pick.head))).drop).divide (Split.cons Pick.head (Split.cons (Pick.tail Pick.head) (Split.cons Pick.head Split.nil)))
end Go.Proofs.Ytilifeeddpkclaa
