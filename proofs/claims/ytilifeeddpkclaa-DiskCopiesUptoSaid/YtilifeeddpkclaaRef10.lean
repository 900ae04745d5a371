import Derived.Test.YtilifeeddpkclaaLaw1
import Derived.Test.YtilifeeddpkclaaSlAdd
namespace Go.Proofs.Ytilifeeddpkclaa
open Go Go.SL
attribute [local irreducible] J JL JE JM LS Y Fc RV Code.wp wpList Code.wpIn wpListIn
attribute [local irreducible] Yc
variable (E : World)
/-- The document's disk. -/
structure Rk where
  safe : List Blk
  pending : List (Int × Blk)
  dead : Bool
  left : Int
  ops : Int
/-- As it lies. -/
structure Rv where
  k : Rk
  sa : Option Addr
  sc : Nat
  pa : Option Addr
  pc : Nat
def encR (x : Rv) : List Value := [.slice x.sa x.k.safe.length x.sc, .slice x.pa x.k.pending.length x.pc, .bool x.k.dead, .int .i64 x.k.left, .int .i64 x.k.ops]
structure Rk.Ok (k : Rk) : Prop where
  safe : ∀ b ∈ k.safe, b.length = 64
  pend : ∀ p ∈ k.pending, p.2.length = 64 ∧ 0 ≤ p.1 ∧ p.1 < k.safe.length
  most : k.safe.length ≤ 512
  left : -9223372036854775808 ≤ k.left ∧ k.left ≤ 9223372036854775807
structure Rv.In (x : Rv) (l : List HProp) : Prop where
  ok : x.k.Ok
  safe : InL l x.sa x.k.safe.length x.sc (x.k.safe.flatMap encB)
  pend : InL l x.pa x.k.pending.length x.pc (x.k.pending.flatMap encW)
theorem Rv.In.app {x : Rv} {l : List HProp} (h : x.In l) (m : List HProp) : x.In (m ++ l) := ⟨h.ok, h.safe.app m, h.pend.app m⟩
theorem Rk.Ok.segB {k : Rk} (h : k.Ok) : ∀ b ∈ k.safe, (encB b).length = 64 := fun b hb => by rw [encB_length]; exact h.safe b hb
theorem Rk.Ok.segW {k : Rk} (h : k.Ok) : ∀ p ∈ k.pending, (encW p).length = 65 := fun p hp => by simp [encW, (h.pend p hp).1]
/-- What a sector holds. -/
def lastW (i : Int) (l : List (Int × Blk)) (b : Blk) : Blk := l.foldl (fun b w => if w.1 = i then w.2 else b) b
def Rk.read (k : Rk) (i : Int) : Blk × Int := if k.dead then (zeroB, 7) else if i < 0 ∨ k.safe.length ≤ i then (zeroB, 2) else (lastW i k.pending (k.safe.getD i.toNat []), 0)
theorem lastW_next {i : Int} {l : List (Int × Blk)} {b : Blk} {j : Nat} {p : Int × Blk} (h : l[j]? = some p) : lastW i (l.take (j + 1)) b = if p.1 = i then p.2 else lastW i (l.take j) b := by
  rw [lastW, lastW, List.take_add_one, h, List.foldl_append]
  rfl
theorem lastW_len {i : Int} : ∀ {l : List (Int × Blk)} {b : Blk}, (∀ p ∈ l, p.2.length = 64) → b.length = 64 → (lastW i l b).length = 64
  | [], _, _, hb => hb
  | p :: r, b, hl, hb => by
    have := lastW_len (i := i) (l := r) (b := if p.1 = i then p.2 else b) (fun q hq => hl q (by simp [hq])) (by split; exact hl p (by simp); exact hb)
    exact this
theorem rread_bad (x : Rv) (i : Int) (l : List HProp) (h : x.k.dead = true ∨ i < 0 ∨ x.k.safe.length ≤ i) :
    Fc prog E 28 [.agg (encR x).toArray, .int .i64 i].toArray l (fun v l' => v = .tuple #[.agg (encB (x.k.read i).1).toArray, .int .i64 (x.k.read i).2] ∧ l' = l) := by
  refine Fc.eqs ?_
  cases hd : x.k.dead with
  | true =>
    refine Fc.of_body (c := ?c) Try.func28 ?hb Try.ntmps28 ?hl ?_
    case hb => exact rfl
    case hl => exact rfl
    refine J.seq ?_
    refine J.region ?_
    refine JL.loud rfl (l_box rfl (by (first | rfl | simp)) rfl (fun b1 => ?_))
    refine JL.loud rfl (l_alloc hT rfl rfl (by (first | rfl | simp)) rfl (fun b2 => ?_))
    refine JL.step (y_assign rfl) rfl rfl rfl ?_
    refine JL.nil ?_
    refine JE.then_normal ?_
    refine J.seq ?_
    refine J.seq ?_
    refine J.region ?_
    refine JL.step (y_fieldAddr hT rfl rfl rfl rfl rfl rfl) rfl rfl rfl ?_
    refine JL.step (y_load1 hT rfl rfl rfl (by (exact Rd1.row (by (repeat (first | exact Pick.head | apply Pick.tail | apply Pick.app))) (by rfl)))) rfl rfl rfl ?_
    refine JL.nil ?_
    refine JE.then_normal ?_
    refine J.cond_t rfl (by (first | rfl | assumption | (simp; done) | (simp; omega))) ?_
    refine J.seq ?_
    refine J.region ?_
    refine JL.step (y_build_arr0 hT rfl rfl rfl rfl) rfl rfl rfl ?_
    refine JL.loud rfl (l_storeAll hT rfl rfl rfl (by (first | rfl | assumption | (simp; done) | omega)) (by (first | assumption | exact ones_of rfl | exact encW_one _ | exact encB_one _ | (intro u hu; simp at hu; rcases hu with rfl | rfl <;> rfl) | (intro u hu; simp at hu; subst hu; rfl) | simp)) (by (repeat (first | exact Pick.head | apply Pick.tail | apply Pick.app))) (by (first | rfl | assumption | (simp; done) | omega)) ?_)
    refine JL.step (y_assign rfl) rfl rfl rfl ?_
    refine JL.nil ?_
    refine JE.then_normal ?_
    refine J.ret ?_
    refine JE.then_ret ?_
    refine JE.ret2 (.inl rfl) rfl rfl (by (first | exact RV.tmp rfl | exact RV.cell1 hT rfl rfl rfl (by (exact Rd1.row (by (repeat (first | exact Pick.head | apply Pick.tail | apply Pick.app))) (by rfl))) | exact RV.cellN hT rfl rfl rfl (by (first | exact RdN.rowAll (by (repeat (first | exact Pick.head | apply Pick.tail | apply Pick.app))) | exact RdN.own (by (repeat (first | exact Pick.head | apply Pick.tail | apply Pick.app))))) (by (first | rfl | assumption | (simp; done) | omega)))) (by (first | exact RV.tmp rfl | exact RV.cell1 hT rfl rfl rfl (by (exact Rd1.row (by (repeat (first | exact Pick.head | apply Pick.tail | apply Pick.app))) (by rfl))) | exact RV.cellN hT rfl rfl rfl (by (first | exact RdN.rowAll (by (repeat (first | exact Pick.head | apply Pick.tail | apply Pick.app))) | exact RdN.own (by (repeat (first | exact Pick.head | apply Pick.tail | apply Pick.app))))) (by (first | rfl | assumption | (simp; done) | omega)))) ?_
    refine ⟨?_, fun w q => q.sup (by (repeat (first | exact Sup.refl | apply Sup.cons (by (repeat (first | exact Pick.head | apply Pick.tail | apply Pick.app))) | apply Sup.app | apply Sup.skip | apply Sup.skips)))⟩
    simp [Rk.read, hd, encB_zero]
  | false =>
    have hi := h.resolve_left (by simp [hd])
    refine Fc.of_body (c := ?c) Try.func28 ?hb Try.ntmps28 ?hl ?_
    case hb => exact rfl
    case hl => exact rfl
    refine J.seq ?_
    refine J.region ?_
    refine JL.loud rfl (l_box rfl (by (first | rfl | simp)) rfl (fun b1 => ?_))
    refine JL.loud rfl (l_alloc hT rfl rfl (by (first | rfl | simp)) rfl (fun b2 => ?_))
    refine JL.step (y_assign rfl) rfl rfl rfl ?_
    refine JL.nil ?_
    refine JE.then_normal ?_
    refine J.seq ?_
    refine J.seq ?_
    refine J.region ?_
    refine JL.step (y_fieldAddr hT rfl rfl rfl rfl rfl rfl) rfl rfl rfl ?_
    refine JL.step (y_load1 hT rfl rfl rfl (by (exact Rd1.row (by (repeat (first | exact Pick.head | apply Pick.tail | apply Pick.app))) (by rfl)))) rfl rfl rfl ?_
    refine JL.nil ?_
    refine JE.then_normal ?_
    refine J.cond_f rfl (by (first | rfl | assumption | (simp; done) | (simp; omega))) ?_
    refine J.skip ?_
    refine JE.then_normal ?_
    refine J.seq ?_
    refine J.seq ?_
    refine J.region ?_
    refine JL.step (y_move rfl) rfl rfl rfl (JL.step (y_lss rfl rfl) rfl rfl rfl (JL.step (y_move rfl) rfl rfl rfl ?_))
    all_goals (first | (refine JL.gsplit_dec rfl rfl rfl (fun h => ?_) (fun h => ?_) <;> try (first | (exfalso; omega) | exact absurd rfl h)) | (refine JL.gsplit rfl rfl rfl (fun h => ?_) (fun h => ?_) <;> try (first | cases h | (exfalso; simp at h; done))) | skip)
    all_goals (first | refine JL.gskip rfl rfl rfl rfl rfl rfl ?_ | refine JL.gskipU rfl rfl rfl rfl rfl ?_ | refine JL.gstep rfl rfl rfl (y_move rfl) rfl rfl ?_)
    all_goals (first | refine JL.gskip rfl rfl rfl rfl rfl rfl ?_ | refine JL.gskipU rfl rfl rfl rfl rfl ?_ | refine JL.gstep rfl rfl rfl (y_fieldAddr hT rfl rfl rfl rfl rfl rfl) rfl rfl ?_)
    all_goals (first | refine JL.gskip rfl rfl rfl rfl rfl rfl ?_ | refine JL.gskipU rfl rfl rfl rfl rfl ?_ | refine JL.gstep rfl rfl rfl (y_load1 hT rfl rfl rfl (by (exact Rd1.row (by (repeat (first | exact Pick.head | apply Pick.tail | apply Pick.app))) (by rfl)))) rfl rfl ?_)
    all_goals (first | refine JL.gskip rfl rfl rfl rfl rfl rfl ?_ | refine JL.gskipU rfl rfl rfl rfl rfl ?_ | refine JL.gstep rfl rfl rfl (y_len_slice hT rfl rfl rfl) rfl rfl ?_)
    all_goals (first | refine JL.gskip rfl rfl rfl rfl rfl rfl ?_ | refine JL.gskipU rfl rfl rfl rfl rfl ?_ | refine JL.gstep rfl rfl rfl (y_geq rfl rfl) rfl rfl ?_)
    all_goals (refine JL.step (y_pick rfl rfl rfl) rfl rfl rfl ?_)
    all_goals refine JL.nil ?_
    all_goals refine JE.then_normal ?_
    all_goals
      refine J.cond_t rfl (by (first | rfl | assumption | (simp; done) | (simp; omega))) ?_
      refine J.seq ?_
      refine J.region ?_
      refine JL.step (y_build_arr0 hT rfl rfl rfl rfl) rfl rfl rfl ?_
      refine JL.loud rfl (l_storeAll hT rfl rfl rfl (by (first | rfl | assumption | (simp; done) | omega)) (by (first | assumption | exact ones_of rfl | exact encW_one _ | exact encB_one _ | (intro u hu; simp at hu; rcases hu with rfl | rfl <;> rfl) | (intro u hu; simp at hu; subst hu; rfl) | simp)) (by (repeat (first | exact Pick.head | apply Pick.tail | apply Pick.app))) (by (first | rfl | assumption | (simp; done) | omega)) ?_)
      refine JL.step (y_assign rfl) rfl rfl rfl ?_
      refine JL.nil ?_
      refine JE.then_normal ?_
      refine J.ret ?_
      refine JE.then_ret ?_
      refine JE.ret2 (.inl rfl) rfl rfl (by (first | exact RV.tmp rfl | exact RV.cell1 hT rfl rfl rfl (by (exact Rd1.row (by (repeat (first | exact Pick.head | apply Pick.tail | apply Pick.app))) (by rfl))) | exact RV.cellN hT rfl rfl rfl (by (first | exact RdN.rowAll (by (repeat (first | exact Pick.head | apply Pick.tail | apply Pick.app))) | exact RdN.own (by (repeat (first | exact Pick.head | apply Pick.tail | apply Pick.app))))) (by (first | rfl | assumption | (simp; done) | omega)))) (by (first | exact RV.tmp rfl | exact RV.cell1 hT rfl rfl rfl (by (exact Rd1.row (by (repeat (first | exact Pick.head | apply Pick.tail | apply Pick.app))) (by rfl))) | exact RV.cellN hT rfl rfl rfl (by (first | exact RdN.rowAll (by (repeat (first | exact Pick.head | apply Pick.tail | apply Pick.app))) | exact RdN.own (by (repeat (first | exact Pick.head | apply Pick.tail | apply Pick.app))))) (by (first | rfl | assumption | (simp; done) | omega)))) ?_
      refine ⟨?_, fun w q => q.sup (by (repeat (first | exact Sup.refl | apply Sup.cons (by (repeat (first | exact Pick.head | apply Pick.tail | apply Pick.app))) | apply Sup.app | apply Sup.skip | apply Sup.skips)))⟩
      simp [Rk.read, hd, hi, encB_zero]
theorem rread_good (k : Rk) (sa : Option Addr) (sc : Nat) (pa : Option Addr) (pc : Nat) (i : Int) (l : List HProp) (hx : Rv.In ⟨k, sa, sc, pa, pc⟩ l) (hd : k.dead = false) (hi : 0 ≤ i ∧ i < k.safe.length) (hn : k.pending.length ≤ 1000000) :
    Fc prog E 28 [.agg (encR ⟨k, sa, sc, pa, pc⟩).toArray, .int .i64 i].toArray l (fun v l' => v = .tuple #[.agg (encB (k.read i).1).toArray, .int .i64 (k.read i).2] ∧ l' = l) := by
  refine Fc.eqs ?_
  have hread : k.read i = (lastW i k.pending (k.safe.getD i.toNat []), 0) := by
    unfold Rk.read
    rw [hd, if_neg (by simp), if_neg (by omega)]
  rw [hread]
  obtain ⟨b0, hb0⟩ : ∃ b, k.safe[i.toNat]? = some b := ⟨_, List.getElem?_eq_getElem (by omega)⟩
  have hb0l : b0.length = 64 := hx.ok.safe _ (List.mem_of_getElem? hb0)
  have hb0L : (encB b0).length = 64 := (encB_length _).trans hb0l
  rw [List.getD_eq_getElem?_getD, hb0, Option.getD_some]
  have hsx : InL l sa k.safe.length sc (k.safe.flatMap encB) := hx.safe
  have hpx : InL l pa k.pending.length pc (k.pending.flatMap encW) := hx.pend
  obtain ⟨gs, os, rfl, hrs⟩ := hsx.addr (by omega)
  have hlw : ∀ j, (encB (lastW i (k.pending.take j) b0)).length = 64 := fun j => (encB_length _).trans (lastW_len (fun p hp => (hx.ok.pend p (List.mem_of_mem_take hp)).1) hb0l)
  refine Fc.of_body (c := ?c) Try.func28 ?hb Try.ntmps28 ?hl ?_
  case hb => exact rfl
  case hl => exact rfl
  refine J.seq ?_
  refine J.region ?_
  refine JL.loud rfl (l_box rfl (by (first | rfl | simp)) rfl (fun b1 => ?_))
  refine JL.loud rfl (l_alloc hT rfl rfl (by (first | rfl | simp)) rfl (fun b2 => ?_))
  refine JL.step (y_assign rfl) rfl rfl rfl ?_
  refine JL.nil ?_
  refine JE.then_normal ?_
  refine J.seq ?_
  refine J.seq ?_
  refine J.region ?_
  refine JL.step (y_fieldAddr hT rfl rfl rfl rfl rfl rfl) rfl rfl rfl ?_
  refine JL.step (y_load1 hT rfl rfl rfl (by (exact Rd1.row (by (repeat (first | exact Pick.head | apply Pick.tail | apply Pick.app))) (by rfl)))) rfl rfl rfl ?_
  refine JL.nil ?_
  refine JE.then_normal ?_
  refine J.cond_f rfl (by (first | rfl | assumption | (simp; done) | (simp; omega))) ?_
  refine J.skip ?_
  refine JE.then_normal ?_
  refine J.seq ?_
  refine J.seq ?_
  refine J.region ?_
  refine JL.step (y_move rfl) rfl rfl rfl (JL.step (y_lss rfl rfl) rfl rfl rfl (JL.step (y_move rfl) rfl rfl rfl ?_))
  all_goals (first | (refine JL.gsplit_dec rfl rfl rfl (fun h => ?_) (fun h => ?_) <;> try (first | (exfalso; omega) | exact absurd rfl h)) | (refine JL.gsplit rfl rfl rfl (fun h => ?_) (fun h => ?_) <;> try (first | cases h | (exfalso; simp at h; done))) | skip)
  all_goals (first | refine JL.gskip rfl rfl rfl rfl rfl rfl ?_ | refine JL.gskipU rfl rfl rfl rfl rfl ?_ | refine JL.gstep rfl rfl rfl (y_move rfl) rfl rfl ?_)
  all_goals (first | refine JL.gskip rfl rfl rfl rfl rfl rfl ?_ | refine JL.gskipU rfl rfl rfl rfl rfl ?_ | refine JL.gstep rfl rfl rfl (y_fieldAddr hT rfl rfl rfl rfl rfl rfl) rfl rfl ?_)
  all_goals (first | refine JL.gskip rfl rfl rfl rfl rfl rfl ?_ | refine JL.gskipU rfl rfl rfl rfl rfl ?_ | refine JL.gstep rfl rfl rfl (y_load1 hT rfl rfl rfl (by (exact Rd1.row (by (repeat (first | exact Pick.head | apply Pick.tail | apply Pick.app))) (by rfl)))) rfl rfl ?_)
  all_goals (first | refine JL.gskip rfl rfl rfl rfl rfl rfl ?_ | refine JL.gskipU rfl rfl rfl rfl rfl ?_ | refine JL.gstep rfl rfl rfl (y_len_slice hT rfl rfl rfl) rfl rfl ?_)
  all_goals (first | refine JL.gskip rfl rfl rfl rfl rfl rfl ?_ | refine JL.gskipU rfl rfl rfl rfl rfl ?_ | refine JL.gstep rfl rfl rfl (y_geq rfl rfl) rfl rfl ?_)
  all_goals (refine JL.step (y_pick rfl rfl rfl) rfl rfl rfl ?_)
  all_goals refine JL.nil ?_
  all_goals refine JE.then_normal ?_
  all_goals
    refine J.cond_f rfl (by (first | rfl | assumption | (simp; done) | (simp; omega))) ?_
    refine J.skip ?_
  all_goals refine JE.then_normal ?_
  all_goals
    refine J.seq ?_
    refine J.region ?_
    refine JL.step (y_fieldAddr hT rfl rfl rfl rfl rfl rfl) rfl rfl rfl ?_
    refine JL.step (y_load1 hT rfl rfl rfl (by (exact Rd1.row (by (repeat (first | exact Pick.head | apply Pick.tail | apply Pick.app))) (by rfl)))) rfl rfl rfl ?_
    refine JL.step (y_move rfl) rfl rfl rfl ?_
    refine JL.step (y_indexAddr_slice hT rfl rfl rfl rfl rfl (by (first | omega | exact Nat.le_of_ble_eq_true rfl | decide | (simp; omega))) (by (first | omega | exact Nat.le_of_ble_eq_true rfl | decide | (simp; omega)))) rfl rfl rfl ?_
    refine JL.step (y_loadN hT rfl rfl rfl ((hrs [_, _]).elem hx.ok.segB hb0) hb0L) rfl rfl rfl ?_
    refine JL.loud rfl (l_alloc hT rfl rfl (by (first | rfl | simp)) rfl (fun b3 => ?_))
    refine JL.loud rfl (l_storeAll hT rfl rfl rfl (by (first | rfl | assumption | (simp; done) | omega)) (by (first | assumption | exact ones_of rfl | exact encW_one _ | exact encB_one _ | (intro u hu; simp at hu; rcases hu with rfl | rfl <;> rfl) | (intro u hu; simp at hu; subst hu; rfl) | simp)) (by (repeat (first | exact Pick.head | apply Pick.tail | apply Pick.app))) (by (first | rfl | assumption | (simp; done) | omega)) ?_)
    refine JL.nil ?_
    refine JE.then_normal ?_
    refine J.seq ?_
    refine J.seq ?_
    refine J.region ?_
    refine JL.step (y_fieldAddr hT rfl rfl rfl rfl rfl rfl) rfl rfl rfl ?_
    refine JL.step (y_load1 hT rfl rfl rfl (by (exact Rd1.row (by (repeat (first | exact Pick.head | apply Pick.tail | apply Pick.app))) (by rfl)))) rfl rfl rfl ?_
    refine JL.step (y_len_slice hT rfl rfl rfl) rfl rfl rfl (JL.step (y_move rfl) rfl rfl rfl ?_)
    refine JL.nil ?_
    refine JE.then_normal ?_
    refine J.block ?_
    refine J.loop (α := Nat) (fun j => j ≤ k.pending.length) (fun j => [(1, .int .i64 i), (2, .pointer (some ⟨b1, 0, none⟩)), (4, .pointer (some ⟨b2, 0, none⟩)), (6, .pointer (some ⟨b3, 0, none⟩)), (28, .slice pa k.pending.length pc), (29, .int .i64 k.pending.length), (30, .int .i64 j)]) (fun j => row b3 27 (encB (lastW i (k.pending.take j) b0)) :: row b2 27 (List.replicate 64 (.int .u8 0)) :: row b1 43 (encR ⟨k, some ⟨gs, os, none⟩, sc, pa, pc⟩) :: l) (fun j => k.pending.length - j) 0 (by omega) ⟨rfl, rfl, rfl, rfl, rfl, rfl, rfl, trivial⟩ (fun w h => h.sup (by (repeat (first | exact Sup.refl | apply Sup.cons (by (repeat (first | exact Pick.head | apply Pick.tail | apply Pick.app))) | apply Sup.app | apply Sup.skip | apply Sup.skips)))) ?_
    intro j hj
    have hlj := hlw j
    refine J.seq ?_
    refine J.region ?_
    refine JL.step (y_lss rfl rfl) rfl rfl rfl ?_
    refine JL.nil ?_
    refine JE.then_normal ?_
    refine J.seq ?_
    first | apply J.cond_dec rfl | apply J.cond rfl
    case' ht =>
      intro h
      try (first | (exfalso; omega) | (cases h; done) | (exfalso; simp at h; done) | subst h)
      all_goals
        refine J.skip ?_
    case' hf =>
      intro h
      try (first | (exfalso; omega) | (cases h; done) | (exfalso; simp at h; done) | subst h)
      all_goals
        refine J.exit ?_
        refine JE.then_exit ?_
        refine JE.then_exit ?_
        refine JE.block_exit ?_
        refine JE.then_normal ?_
        refine J.seq ?_
        refine J.region ?_
        refine JL.step (y_loadN hT rfl rfl rfl (by (first | exact RdN.rowAll (by (repeat (first | exact Pick.head | apply Pick.tail | apply Pick.app))) | exact RdN.own (by (repeat (first | exact Pick.head | apply Pick.tail | apply Pick.app))))) (by (first | rfl | assumption | (simp; done) | omega))) rfl rfl rfl ?_
        refine JL.loud rfl (l_storeAll hT rfl rfl rfl (by (first | rfl | assumption | (simp; done) | omega)) (by (first | assumption | exact ones_of rfl | exact encW_one _ | exact encB_one _ | (intro u hu; simp at hu; rcases hu with rfl | rfl <;> rfl) | (intro u hu; simp at hu; subst hu; rfl) | simp)) (by (repeat (first | exact Pick.head | apply Pick.tail | apply Pick.app))) (by (first | rfl | assumption | (simp; done) | omega)) ?_)
        refine JL.step (y_assign rfl) rfl rfl rfl ?_
        refine JL.nil ?_
        refine JE.then_normal ?_
        refine J.ret ?_
        refine JE.ret2 (.inl rfl) rfl rfl (by (first | exact RV.tmp rfl | exact RV.cell1 hT rfl rfl rfl (by (exact Rd1.row (by (repeat (first | exact Pick.head | apply Pick.tail | apply Pick.app))) (by rfl))) | exact RV.cellN hT rfl rfl rfl (by (first | exact RdN.rowAll (by (repeat (first | exact Pick.head | apply Pick.tail | apply Pick.app))) | exact RdN.own (by (repeat (first | exact Pick.head | apply Pick.tail | apply Pick.app))))) (by (first | rfl | assumption | (simp; done) | omega)))) (by (first | exact RV.tmp rfl | exact RV.cell1 hT rfl rfl rfl (by (exact Rd1.row (by (repeat (first | exact Pick.head | apply Pick.tail | apply Pick.app))) (by rfl))) | exact RV.cellN hT rfl rfl rfl (by (first | exact RdN.rowAll (by (repeat (first | exact Pick.head | apply Pick.tail | apply Pick.app))) | exact RdN.own (by (repeat (first | exact Pick.head | apply Pick.tail | apply Pick.app))))) (by (first | rfl | assumption | (simp; done) | omega)))) ?_
        obtain rfl : j = k.pending.length := by omega
        rw [List.take_length]
        exact ⟨rfl, fun w q => q.sup (by (repeat (first | exact Sup.refl | apply Sup.cons (by (repeat (first | exact Pick.head | apply Pick.tail | apply Pick.app))) | apply Sup.app | apply Sup.skip | apply Sup.skips)))⟩
    all_goals refine JE.then_normal ?_
    all_goals
      refine J.seq ?_
      refine J.block ?_
      refine J.seq ?_
      refine J.region ?_
      obtain ⟨p, hp⟩ : ∃ p, k.pending[j]? = some p := ⟨_, List.getElem?_eq_getElem (by omega)⟩
      have hpo := hx.ok.pend p (List.mem_of_getElem? hp)
      have hWl : (encW p).length = 65 := by simp [encW, hpo.1]
      have hBl : (encB p.2).length = 64 := by simp [hpo.1]
      obtain ⟨gp, op, rfl, hrp⟩ := hpx.addr (by omega)
      refine JL.step (y_indexAddr_slice hT rfl rfl rfl rfl rfl (by (first | omega | exact Nat.le_of_ble_eq_true rfl | decide | (simp; omega))) (by (first | omega | exact Nat.le_of_ble_eq_true rfl | decide | (simp; omega)))) rfl rfl rfl ?_
      refine JL.step (y_loadN hT rfl rfl rfl ((hrp [_, _, _]).elem hx.ok.segW hp) hWl) rfl rfl rfl ?_
      refine JL.loud rfl (l_alloc hT rfl rfl (by (first | rfl | simp)) rfl (fun b6 => ?_))
      refine JL.loud rfl (l_storeAll hT rfl rfl rfl (by (first | rfl | assumption | (simp; done) | omega)) (by (first | assumption | exact ones_of rfl | exact encW_one _ | exact encB_one _ | (intro u hu; simp at hu; rcases hu with rfl | rfl <;> rfl) | (intro u hu; simp at hu; subst hu; rfl) | simp)) (by (repeat (first | exact Pick.head | apply Pick.tail | apply Pick.app))) (by (first | rfl | assumption | (simp; done) | omega)) ?_)
      refine JL.nil ?_
      refine JE.then_normal ?_
      refine J.seq ?_
      refine J.region ?_
      refine JL.step (y_fieldAddr hT rfl rfl rfl rfl rfl rfl) rfl rfl rfl ?_
      refine JL.step (y_load1 hT rfl rfl rfl (by (exact Rd1.row (by (repeat (first | exact Pick.head | apply Pick.tail | apply Pick.app))) (by rfl)))) rfl rfl rfl ?_
      refine JL.step (y_move rfl) rfl rfl rfl (JL.step (y_eql rfl rfl) rfl rfl rfl ?_)
      refine JL.nil ?_
      refine JE.then_normal ?_
      first | apply J.cond_dec rfl | apply J.cond rfl
      case' ht =>
        intro h
        try (first | (exfalso; omega) | (cases h; done) | (exfalso; simp at h; done) | subst h)
        all_goals
          refine J.region ?_
          refine JL.step (y_fieldAddr hT rfl rfl rfl rfl rfl rfl) rfl rfl rfl ?_
          refine JL.step (y_loadN hT rfl rfl rfl (RdN.row (n := 64) (vs := encB p.2) (by (repeat (first | exact Pick.head | apply Pick.tail | apply Pick.app))) (by simp [encW, List.take_of_length_le, hpo.1])) hBl) rfl rfl rfl ?_
          refine JL.loud rfl (l_storeAll hT rfl rfl rfl (by (first | rfl | assumption | (simp; done) | omega)) (by (first | assumption | exact ones_of rfl | exact encW_one _ | exact encB_one _ | (intro u hu; simp at hu; rcases hu with rfl | rfl <;> rfl) | (intro u hu; simp at hu; subst hu; rfl) | simp)) (by (repeat (first | exact Pick.head | apply Pick.tail | apply Pick.app))) (by (first | rfl | assumption | (simp; done) | omega)) ?_)
          refine JL.nil ?_
      case' hf =>
        intro h
        try (first | (exfalso; omega) | (cases h; done) | (exfalso; simp at h; done) | subst h)
        all_goals
          refine J.skip ?_
      all_goals refine JE.block_normal ?_
      all_goals refine JE.then_normal ?_
      all_goals
        refine J.region ?_
        refine JL.step (y_add rfl rfl (by (first | exact wrap_i64 (by omega) (by omega) | rfl))) rfl rfl rfl ?_
        refine JL.step (y_move rfl) rfl rfl rfl ?_
        refine JL.nil ?_
    all_goals
      first
        | (refine JE.round (s := j) (j + 1) (by omega) ⟨rfl, rfl, rfl, rfl, rfl, rfl, rfl, trivial⟩ (fun w q => ?_) (by omega)
           rw [lastW_next (i := i) (b := b0) hp, if_neg (by assumption)]
           exact q.sup (by (repeat (first | exact Sup.refl | apply Sup.cons (by (repeat (first | exact Pick.head | apply Pick.tail | apply Pick.app))) | apply Sup.app | apply Sup.skip | apply Sup.skips))))
        | (refine JE.round (s := j) (j + 1) (by omega) ⟨rfl, rfl, rfl, rfl, rfl, rfl, rfl, trivial⟩ (fun w q => ?_) (by omega)
           rw [lastW_next (i := p.1) (b := b0) hp, if_pos rfl]
           exact q.sup (by (repeat (first | exact Sup.refl | apply Sup.cons (by (repeat (first | exact Pick.head | apply Pick.tail | apply Pick.app))) | apply Sup.app | apply Sup.skip | apply Sup.skips))))
theorem rread_spec (x : Rv) (i : Int) (l : List HProp) (hx : x.In l) (hn : x.k.pending.length ≤ 1000000) :
    Fc prog E 28 [.agg (encR x).toArray, .int .i64 i].toArray l (fun v l' => v = .tuple #[.agg (encB (x.k.read i).1).toArray, .int .i64 (x.k.read i).2] ∧ l' = l) := by
  by_cases h : x.k.dead = true ∨ i < 0 ∨ x.k.safe.length ≤ i
  · exact rread_bad E x i l h
  · exact rread_good E x.k x.sa x.sc x.pa x.pc i l hx (by cases hd : x.k.dead; rfl; exact absurd (.inl hd) h) (by omega) hn
/-- One more is done, or not. -/
def Rk.done (k : Rk) : Rk × Bool := if k.left = 0 then ({ k with dead := true }, false) else ({ k with left := if 0 < k.left then k.left - 1 else k.left, ops := IntKind.i64.wrap (k.ops + 1) }, true)
theorem rdone_spec (x : Rv) (l : List HProp) (hl : -9223372036854775808 ≤ x.k.left ∧ x.k.left ≤ 9223372036854775807) :
    Fc prog E 81 [.agg (encR x).toArray].toArray l (fun v l' => v = .tuple #[.agg (encR { x with k := x.k.done.1 }).toArray, .bool x.k.done.2] ∧ l' = l) := by
  refine Fc.eqs ?_
  refine Fc.of_body (c := ?c) Try.func81 ?hb Try.ntmps81 ?hl ?_
  case hb => exact rfl
  case hl => exact rfl
  refine J.seq ?_
  refine J.region ?_
  refine JL.loud rfl (l_box rfl (by (first | rfl | simp)) rfl (fun b1 => ?_))
  refine JL.loud rfl (l_alloc hT rfl rfl (by (first | rfl | simp)) rfl (fun b2 => ?_))
  refine JL.step (y_assign rfl) rfl rfl rfl ?_
  refine JL.nil ?_
  refine JE.then_normal ?_
  refine J.seq ?_
  refine J.seq ?_
  refine J.region ?_
  refine JL.step (y_fieldAddr hT rfl rfl rfl rfl rfl rfl) rfl rfl rfl ?_
  refine JL.step (y_load1 hT rfl rfl rfl (by (exact Rd1.row (by (repeat (first | exact Pick.head | apply Pick.tail | apply Pick.app))) (by rfl)))) rfl rfl rfl ?_
  refine JL.step (y_eql rfl rfl) rfl rfl rfl ?_
  refine JL.nil ?_
  refine JE.then_normal ?_
  first | apply J.cond_dec rfl | apply J.cond rfl
  case' ht =>
    intro h
    try (first | (exfalso; omega) | (cases h; done) | (exfalso; simp at h; done) | subst h)
    all_goals
      refine J.seq ?_
      refine J.region ?_
      refine JL.step (y_fieldAddr hT rfl rfl rfl rfl rfl rfl) rfl rfl rfl ?_
      refine JL.loud rfl (l_store1 hT rfl rfl rfl rfl rfl (by (repeat (first | exact Pick.head | apply Pick.tail | apply Pick.app))) (by (first | omega | exact Nat.le_of_ble_eq_true rfl | decide | (simp; omega))) ?_)
      refine JL.nil ?_
      refine JE.then_normal ?_
      refine J.seq ?_
      refine J.region ?_
      refine JL.step (y_loadN hT rfl rfl rfl (by (first | exact RdN.rowAll (by (repeat (first | exact Pick.head | apply Pick.tail | apply Pick.app))) | exact RdN.own (by (repeat (first | exact Pick.head | apply Pick.tail | apply Pick.app))))) (by (first | rfl | assumption | (simp; done) | omega))) rfl rfl rfl ?_
      refine JL.loud rfl (l_storeAll hT rfl rfl rfl (by (first | rfl | assumption | (simp; done) | omega)) (by (first | assumption | exact ones_of rfl | exact encW_one _ | exact encB_one _ | (intro u hu; simp at hu; rcases hu with rfl | rfl <;> rfl) | (intro u hu; simp at hu; subst hu; rfl) | simp)) (by (repeat (first | exact Pick.head | apply Pick.tail | apply Pick.app))) (by (first | rfl | assumption | (simp; done) | omega)) ?_)
      refine JL.step (y_assign rfl) rfl rfl rfl ?_
      refine JL.nil ?_
      refine JE.then_normal ?_
      refine J.ret ?_
      refine JE.then_ret ?_
      refine JE.ret2 (.inl rfl) rfl rfl (by (first | exact RV.tmp rfl | exact RV.cell1 hT rfl rfl rfl (by (exact Rd1.row (by (repeat (first | exact Pick.head | apply Pick.tail | apply Pick.app))) (by rfl))) | exact RV.cellN hT rfl rfl rfl (by (first | exact RdN.rowAll (by (repeat (first | exact Pick.head | apply Pick.tail | apply Pick.app))) | exact RdN.own (by (repeat (first | exact Pick.head | apply Pick.tail | apply Pick.app))))) (by (first | rfl | assumption | (simp; done) | omega)))) (by (first | exact RV.tmp rfl | exact RV.cell1 hT rfl rfl rfl (by (exact Rd1.row (by (repeat (first | exact Pick.head | apply Pick.tail | apply Pick.app))) (by rfl))) | exact RV.cellN hT rfl rfl rfl (by (first | exact RdN.rowAll (by (repeat (first | exact Pick.head | apply Pick.tail | apply Pick.app))) | exact RdN.own (by (repeat (first | exact Pick.head | apply Pick.tail | apply Pick.app))))) (by (first | rfl | assumption | (simp; done) | omega)))) ?_
      refine ⟨?_, fun w q => q.sup (by (repeat (first | exact Sup.refl | apply Sup.cons (by (repeat (first | exact Pick.head | apply Pick.tail | apply Pick.app))) | apply Sup.app | apply Sup.skip | apply Sup.skips)))⟩
      unfold Rk.done
      first
        | (rw [if_pos (by assumption)]; rfl)
        | (rw [if_neg (by assumption), if_pos (by assumption)]; rfl)
        | (rw [if_neg (by assumption), if_neg (by assumption)]; rfl)
  case' hf =>
    intro h
    try (first | (exfalso; omega) | (cases h; done) | (exfalso; simp at h; done) | subst h)
    all_goals
      refine J.skip ?_
  all_goals refine JE.then_normal ?_
  all_goals
    refine J.seq ?_
    refine J.seq ?_
    refine J.region ?_
    refine JL.step (y_fieldAddr hT rfl rfl rfl rfl rfl rfl) rfl rfl rfl ?_
    refine JL.step (y_load1 hT rfl rfl rfl (by (exact Rd1.row (by (repeat (first | exact Pick.head | apply Pick.tail | apply Pick.app))) (by rfl)))) rfl rfl rfl ?_
    refine JL.step (y_gtr rfl rfl) rfl rfl rfl ?_
    refine JL.nil ?_
    refine JE.then_normal ?_
    first | apply J.cond_dec rfl | apply J.cond rfl
    case' ht =>
      intro h
      try (first | (exfalso; omega) | (cases h; done) | (exfalso; simp at h; done) | subst h)
      all_goals
        refine J.region ?_
        refine JL.step (y_fieldAddr hT rfl rfl rfl rfl rfl rfl) rfl rfl rfl ?_
        refine JL.step (y_load1 hT rfl rfl rfl (by (exact Rd1.row (by (repeat (first | exact Pick.head | apply Pick.tail | apply Pick.app))) (by rfl)))) rfl rfl rfl ?_
        refine JL.step (y_sub rfl rfl (by (first | exact wrap_i64 (by omega) (by omega) | rfl))) rfl rfl rfl ?_
        refine JL.step (y_fieldAddr hT rfl rfl rfl rfl rfl rfl) rfl rfl rfl ?_
        refine JL.loud rfl (l_store1 hT rfl rfl rfl rfl rfl (by (repeat (first | exact Pick.head | apply Pick.tail | apply Pick.app))) (by (first | omega | exact Nat.le_of_ble_eq_true rfl | decide | (simp; omega))) ?_)
        refine JL.nil ?_
    case' hf =>
      intro h
      try (first | (exfalso; omega) | (cases h; done) | (exfalso; simp at h; done) | subst h)
      all_goals
        refine J.skip ?_
    all_goals refine JE.then_normal ?_
    all_goals
      refine J.seq ?_
      refine J.region ?_
      refine JL.step (y_fieldAddr hT rfl rfl rfl rfl rfl rfl) rfl rfl rfl ?_
      refine JL.step (y_load1 hT rfl rfl rfl (by (exact Rd1.row (by (repeat (first | exact Pick.head | apply Pick.tail | apply Pick.app))) (by rfl)))) rfl rfl rfl ?_
      refine JL.step (y_add rfl rfl (by (first | exact wrap_i64 (by omega) (by omega) | rfl))) rfl rfl rfl ?_
      refine JL.step (y_fieldAddr hT rfl rfl rfl rfl rfl rfl) rfl rfl rfl ?_
      refine JL.loud rfl (l_store1 hT rfl rfl rfl rfl rfl (by (repeat (first | exact Pick.head | apply Pick.tail | apply Pick.app))) (by (first | omega | exact Nat.le_of_ble_eq_true rfl | decide | (simp; omega))) ?_)
      refine JL.nil ?_
      refine JE.then_normal ?_
      refine J.seq ?_
      refine J.region ?_
      refine JL.step (y_loadN hT rfl rfl rfl (by (first | exact RdN.rowAll (by (repeat (first | exact Pick.head | apply Pick.tail | apply Pick.app))) | exact RdN.own (by (repeat (first | exact Pick.head | apply Pick.tail | apply Pick.app))))) (by (first | rfl | assumption | (simp; done) | omega))) rfl rfl rfl ?_
      refine JL.loud rfl (l_storeAll hT rfl rfl rfl (by (first | rfl | assumption | (simp; done) | omega)) (by (first | assumption | exact ones_of rfl | exact encW_one _ | exact encB_one _ | (intro u hu; simp at hu; rcases hu with rfl | rfl <;> rfl) | (intro u hu; simp at hu; subst hu; rfl) | simp)) (by (repeat (first | exact Pick.head | apply Pick.tail | apply Pick.app))) (by (first | rfl | assumption | (simp; done) | omega)) ?_)
      refine JL.step (y_assign rfl) rfl rfl rfl ?_
      refine JL.nil ?_
      refine JE.then_normal ?_
      refine J.ret ?_
      refine JE.ret2 (.inl rfl) rfl rfl (by (first | exact RV.tmp rfl | exact RV.cell1 hT rfl rfl rfl (by (exact Rd1.row (by (repeat (first | exact Pick.head | apply Pick.tail | apply Pick.app))) (by rfl))) | exact RV.cellN hT rfl rfl rfl (by (first | exact RdN.rowAll (by (repeat (first | exact Pick.head | apply Pick.tail | apply Pick.app))) | exact RdN.own (by (repeat (first | exact Pick.head | apply Pick.tail | apply Pick.app))))) (by (first | rfl | assumption | (simp; done) | omega)))) (by (first | exact RV.tmp rfl | exact RV.cell1 hT rfl rfl rfl (by (exact Rd1.row (by (repeat (first | exact Pick.head | apply Pick.tail | apply Pick.app))) (by rfl))) | exact RV.cellN hT rfl rfl rfl (by (first | exact RdN.rowAll (by (repeat (first | exact Pick.head | apply Pick.tail | apply Pick.app))) | exact RdN.own (by (repeat (first | exact Pick.head | apply Pick.tail | apply Pick.app))))) (by (first | rfl | assumption | (simp; done) | omega)))) ?_
      refine ⟨?_, fun w q => q.sup (by (repeat (first | exact Sup.refl | apply Sup.cons (by (repeat (first | exact Pick.head | apply Pick.tail | apply Pick.app))) | apply Sup.app | apply Sup.skip | apply Sup.skips)))⟩
      unfold Rk.done
      first
        | (rw [if_pos (by assumption)]; rfl)
        | (rw [if_neg (by assumption), if_pos (by assumption)]; rfl)
        | (rw [if_neg (by assumption), if_neg (by assumption)]; rfl)
end Go.Proofs.Ytilifeeddpkclaa
