import Derived.Test.YtilifeeddpkclaaSlOps
import Derived.Laws.CopyRow
import Derived.Laws.StructEq
namespace Go.SL
open Go Go.RowKit

/-- What a rule asks of a type. -/
structure TI where
  u : TypeDesc
  size : Nat
  bytes : Nat
  zero : Option Value
abbrev Tab := List (TypeId × TI)
def Tab.at (T : Tab) (t : TypeId) : Option TI :=
  match T with
  | [] => none
  | (d, i) :: r => bif Nat.beq d t then some i else Tab.at r t
def Tok (P : Program) (T : Tab) : Prop := ∀ t i, T.at t = some i → P.underlying t = some i.u ∧ ∃ j, P.info? t = some j ∧ j.size = i.size ∧ j.bytes = i.bytes ∧ j.zero = i.zero
theorem Tok.nil {P : Program} : Tok P [] := fun t i h => by simp [Tab.at] at h
theorem Tok.cons {P : Program} {T : Tab} {d : TypeId} {i : TI} (hu : P.underlying d = some i.u) (hi : (P.info? d).map (fun j => (j.size, j.bytes, j.zero)) = some (i.size, i.bytes, i.zero)) (h : Tok P T) : Tok P ((d, i) :: T) := by
  intro t j e
  simp only [Tab.at] at e
  cases hb : Nat.beq d t with
  | false => rw [hb] at e; exact h t j e
  | true =>
    rw [hb] at e
    have : d = t := Nat.eq_of_beq_eq_true hb
    subst this
    cases e
    refine ⟨hu, ?_⟩
    obtain ⟨x, hx, hy⟩ := Option.map_eq_some_iff.1 hi
    simp only [Prod.mk.injEq] at hy
    exact ⟨x, hx, hy.1, hy.2.1, hy.2.2⟩
def isAggB : TypeDesc → Bool
  | .struct _ | .array _ _ => true
  | _ => false

section
variable {P : Program} {T : Tab} {t : TypeId} {i : TI} (hT : Tok P T) (w : World)
include hT
theorem Tok.und (h : T.at t = some i) : (underlying t).run P w = .ok i.u w := run_underlying (hT t i h).1 w
theorem Tok.siz (h : T.at t = some i) : (sizeOf t).run P w = .ok i.size w := by
  obtain ⟨_, j, hj, hs, _, _⟩ := hT t i h
  simp [sizeOf, typeInfo, hj, hs]
theorem Tok.byt (h : T.at t = some i) : ∃ j, (typeInfo t).run P w = .ok j w ∧ j.bytes = i.bytes := by
  obtain ⟨_, j, hj, _, hb, _⟩ := hT t i h
  exact ⟨j, by simp [typeInfo, hj], hb⟩
theorem Tok.zer {z : Value} (h : T.at t = some i) (hz : i.zero = some z) : (zeroValue t).run P w = .ok z w := by
  obtain ⟨_, j, hj, _, _, hz'⟩ := hT t i h
  simp [zeroValue, typeInfo, hj, hz', hz]
theorem Tok.agg (h : T.at t = some i) : (isAgg t).run P w = .ok (isAggB i.u) w := by
  unfold isAgg
  simp only [Sem.run_bind, hT.und w h, Result.andThen_ok]
  cases i.u <;> rfl
end

/-- The list tells a cell. -/
def Rd1 (l : List HProp) (b off : Nat) (v : Value) : Prop := ∀ E w, Sat E (stars l) w → w.cell? ⟨b, off, none⟩ = some v
theorem Rd1.row {l r : List HProp} {b off : Nat} {e : TypeId} {cs : List Value} {v : Value} (p : Pick l (row b e cs) r) (h : cs[off]? = some v) : Rd1 l b off v :=
  fun _ _ s => (s.pick p).cell off ▸ h
theorem Rd1.old {l r : List HProp} {b off : Nat} {w0 : World} {v : Value} (p : Pick l (old w0) r) (h : w0.cell? ⟨b, off, none⟩ = some v) : Rd1 l b off v := fun E w s => by
  have s := s.pick p
  unfold World.cell? at h ⊢
  dsimp only at h ⊢
  cases e : w0.heap[b]? with
  | none => simp [e] at h
  | some o => rw [s.elder e]; rw [e] at h; exact h
/-- The list tells cells. -/
def RdN (l : List HProp) (b off : Nat) (vs : List Value) : Prop := ∀ j v, vs[j]? = some v → Rd1 l b (off + j) v
theorem RdN.row {l r : List HProp} {b off n : Nat} {e : TypeId} {cs vs : List Value} (p : Pick l (SL.row b e cs) r) (h : (cs.drop off).take n = vs) : RdN l b off vs := fun j v hj => by
  refine Rd1.row p ?_
  subst h
  rw [List.getElem?_take] at hj
  split at hj
  · rw [List.getElem?_drop] at hj; exact hj
  · simp at hj
theorem RdN.nil {l : List HProp} {b off : Nat} : RdN l b off [] := fun j v h => by simp at h
theorem RdN.one {l : List HProp} {b off : Nat} {v : Value} (h : Rd1 l b off v) : RdN l b off [v] := fun j u hj => by
  cases j with
  | zero => simp at hj; subst hj; exact h
  | succ j => simp at hj
theorem RdN.sub {l : List HProp} {b off : Nat} {vs us : List Value} (h : RdN l b off vs) (k n : Nat) (he : (vs.drop k).take n = us) : RdN l b (off + k) us := fun j v hj => by
  subst he
  rw [List.getElem?_take] at hj
  split at hj
  · rw [List.getElem?_drop] at hj
    have := h (k + j) v hj
    rwa [Nat.add_assoc]
  · simp at hj
theorem RdN.cells {l : List HProp} {b off : Nat} {vs : List Value} (h : RdN l b off vs) {E w : World} (s : Sat E (stars l) w) : ∀ j v, vs[j]? = some v → w.cell? ((⟨b, off, none⟩ : Addr).add j) = some v := fun j v hj => by
  rw [show (⟨b, off, none⟩ : Addr).add j = ⟨b, off + j, none⟩ by unfold Addr.add; split <;> simp_all]
  exact h j v hj E w s

theorem addr_add (b o j : Nat) : (⟨b, o, none⟩ : Addr).add j = ⟨b, o + j, none⟩ := by unfold Addr.add; split <;> simp_all

section
variable {P : Program} {E : World} {n : Nat} {ds : List Deferred} {env : Fr} {l : List HProp} {T : Tab}
variable {dst : Option Tmp} {ty : TypeId} {pos : String} {af : Array Edge} {gd : Option (Nat × Bool)} {x y z : Operand} {v u : Value} {t t' : TypeId}

theorem y_move (h : val env x = some v) : Y P E n ds ⟨dst, .move x, ty, pos, af, gd⟩ env l v := Y.of fun a w hf _ => by simp [execOp, hf.eval h]
theorem y_assign (h : val env x = some v) : Y P E n ds ⟨dst, .assign x, ty, pos, af, gd⟩ env l v := Y.of fun a w hf _ => by simp [execOp, hf.eval h]
theorem y_pick {b : Bool} (h : val env x = some (.bool b)) (h1 : val env y = some v) (h2 : val env z = some u) : Y P E n ds ⟨dst, .pick x y z, ty, pos, af, gd⟩ env l (bif b then v else u) :=
  Y.of fun a w hf _ => by cases b <;> simp [execOp, hf.eval h, hf.eval h1, hf.eval h2, asBool]

variable {k k' : IntKind} {i j m : Int}
theorem y_add (hx : val env x = some (.int k i)) (hy : val env y = some (.int k j)) (hr : k.wrap (i + j) = m) : Y P E n ds ⟨dst, .binOp .add t x y t', ty, pos, af, gd⟩ env l (.int k m) :=
  Y.of fun a w hf _ => by (simp only [execOp, hf.eval hx, hf.eval hy]; simp [go_sem, hr])
theorem y_sub (hx : val env x = some (.int k i)) (hy : val env y = some (.int k j)) (hr : k.wrap (i - j) = m) : Y P E n ds ⟨dst, .binOp .sub t x y t', ty, pos, af, gd⟩ env l (.int k m) :=
  Y.of fun a w hf _ => by (simp only [execOp, hf.eval hx, hf.eval hy]; simp [go_sem, hr])
theorem y_mul (hx : val env x = some (.int k i)) (hy : val env y = some (.int k j)) (hr : k.wrap (i * j) = m) : Y P E n ds ⟨dst, .binOp .mul t x y t', ty, pos, af, gd⟩ env l (.int k m) :=
  Y.of fun a w hf _ => by (simp only [execOp, hf.eval hx, hf.eval hy]; simp [go_sem, hr])
theorem y_quo (hx : val env x = some (.int k i)) (hy : val env y = some (.int k j)) (h0 : j ≠ 0) (hr : k.wrap (i.tdiv j) = m) : Y P E n ds ⟨dst, .binOp .quo t x y t', ty, pos, af, gd⟩ env l (.int k m) :=
  Y.of fun a w hf _ => by (simp only [execOp, hf.eval hx, hf.eval hy]; simp [go_sem, hr, h0])
theorem y_rem (hx : val env x = some (.int k i)) (hy : val env y = some (.int k j)) (h0 : j ≠ 0) (hr : i.tmod j = m) : Y P E n ds ⟨dst, .binOp .rem t x y t', ty, pos, af, gd⟩ env l (.int k m) :=
  Y.of fun a w hf _ => by (simp only [execOp, hf.eval hx, hf.eval hy]; simp [go_sem, hr, h0])
theorem y_shl (hx : val env x = some (.int k i)) (hy : val env y = some (.int k' j)) (h0 : 0 ≤ j) (hr : k.wrap (i * 2 ^ (min j.toNat k.bits)) = m) : Y P E n ds ⟨dst, .binOp .shl t x y t', ty, pos, af, gd⟩ env l (.int k m) :=
  Y.of fun a w hf _ => by (subst hr; simp only [execOp, hf.eval hx, hf.eval hy, eqGuard_shl, binOp_shl, Op.shift, show ¬ j < 0 by omega, if_false]; rfl)
theorem y_shr (hx : val env x = some (.int k i)) (hy : val env y = some (.int k' j)) (h0 : 0 ≤ j) (hr : i.fdiv (2 ^ (min j.toNat k.bits)) = m) : Y P E n ds ⟨dst, .binOp .shr t x y t', ty, pos, af, gd⟩ env l (.int k m) :=
  Y.of fun a w hf _ => by (subst hr; simp only [execOp, hf.eval hx, hf.eval hy, eqGuard_shr, binOp_shr, Op.shift, show ¬ j < 0 by omega, if_false]; rfl)
def bitsE (op : BinOp) (k : IntKind) (i j : Int) : Option Int :=
  let a := BitVec.ofInt k.bits i
  let b := BitVec.ofInt k.bits j
  match op with
  | .and => some (k.wrap (a &&& b).toNat)
  | .or => some (k.wrap (a ||| b).toNat)
  | .xor => some (k.wrap (a ^^^ b).toNat)
  | .andNot => some (k.wrap (a &&& ~~~b).toNat)
  | _ => none
theorem y_bits {op : BinOp} (hx : val env x = some (.int k i)) (hy : val env y = some (.int k j)) (hr : bitsE op k i j = some m) : Y P E n ds ⟨dst, .binOp op t x y t', ty, pos, af, gd⟩ env l (.int k m) :=
  Y.of fun a w hf _ => by
    cases op <;> simp only [bitsE, Option.some.injEq, reduceCtorEq] at hr
    · subst hr; simp only [execOp, hf.eval hx, hf.eval hy, eqGuard_and, binOp_and, Op.intBits]; rfl
    · subst hr; simp only [execOp, hf.eval hx, hf.eval hy, eqGuard_or, binOp_or, Op.intBits]; rfl
    · subst hr; simp only [execOp, hf.eval hx, hf.eval hy, eqGuard_xor, binOp_xor, Op.intBits]; rfl
    · subst hr; simp only [execOp, hf.eval hx, hf.eval hy, eqGuard_andNot, binOp_andNot, Op.intBits]; rfl
theorem y_eql (hx : val env x = some (.int k i)) (hy : val env y = some (.int k j)) : Y P E n ds ⟨dst, .binOp .eql t x y t', ty, pos, af, gd⟩ env l (.bool (decide (i = j))) :=
  Y.of fun a w hf _ => by (simp only [execOp, hf.eval hx, hf.eval hy]; simp [go_sem]; rfl)
theorem y_neq (hx : val env x = some (.int k i)) (hy : val env y = some (.int k j)) : Y P E n ds ⟨dst, .binOp .neq t x y t', ty, pos, af, gd⟩ env l (.bool (decide (¬ i = j))) :=
  Y.of fun a w hf _ => by (simp only [execOp, hf.eval hx, hf.eval hy]; simp [go_sem, bne]; rfl)
theorem y_lss (hx : val env x = some (.int k i)) (hy : val env y = some (.int k j)) : Y P E n ds ⟨dst, .binOp .lss t x y t', ty, pos, af, gd⟩ env l (.bool (decide (i < j))) :=
  Y.of fun a w hf _ => by (simp only [execOp, hf.eval hx, hf.eval hy]; simp [go_sem])
theorem y_leq (hx : val env x = some (.int k i)) (hy : val env y = some (.int k j)) : Y P E n ds ⟨dst, .binOp .leq t x y t', ty, pos, af, gd⟩ env l (.bool (decide (i ≤ j))) :=
  Y.of fun a w hf _ => by (simp only [execOp, hf.eval hx, hf.eval hy]; simp [go_sem])
theorem y_gtr (hx : val env x = some (.int k i)) (hy : val env y = some (.int k j)) : Y P E n ds ⟨dst, .binOp .gtr t x y t', ty, pos, af, gd⟩ env l (.bool (decide (j < i))) :=
  Y.of fun a w hf _ => by (simp only [execOp, hf.eval hx, hf.eval hy]; simp [go_sem])
theorem y_geq (hx : val env x = some (.int k i)) (hy : val env y = some (.int k j)) : Y P E n ds ⟨dst, .binOp .geq t x y t', ty, pos, af, gd⟩ env l (.bool (decide (j ≤ i))) :=
  Y.of fun a w hf _ => by (simp only [execOp, hf.eval hx, hf.eval hy]; simp [go_sem])
theorem y_not {b : Bool} (hx : val env x = some (.bool b)) : Y P E n ds ⟨dst, .unOp .not t x, ty, pos, af, gd⟩ env l (.bool (!b)) :=
  Y.of fun a w hf _ => by simp [execOp, hf.eval hx, Op.unary]
theorem y_neg (hx : val env x = some (.int k i)) (hr : k.wrap (0 - i) = m) : Y P E n ds ⟨dst, .unOp .neg t x, ty, pos, af, gd⟩ env l (.int k m) :=
  Y.of fun a w hf _ => by simp [execOp, hf.eval hx, Op.unary, Op.intArith, ← hr]
theorem y_conv (hT : Tok P T) {s : TI} {d : TI} (hs : T.at t = some s) (hd : T.at t' = some d) (hk : d.u = .int k') (hx : val env x = some (.int k i)) (hr : k'.wrap i = m) :
    Y P E n ds ⟨dst, .convert t t' x, ty, pos, af, gd⟩ env l (.int k' m) :=
  Y.of fun a w hf _ => by
    simp only [execOp, hf.eval hx, convert]
    simp only [Sem.run_bind, hT.und w hs, hT.und w hd, Result.andThen_ok, hk]
    cases s.u <;> simp [Conv.intToInt, hr]
theorem y_ptr_eq_nil (hT : Tok P T) {d : TI} {e : TypeId} (hd : T.at t = some d) (hk : d.u = .pointer e) {p : Option Addr} (hx : val env x = some (.pointer p)) (hy : val env y = some (.pointer none)) :
    Y P E n ds ⟨dst, .binOp .eql t x y t', ty, pos, af, gd⟩ env l (.bool p.isNone) :=
  Y.of fun a w hf _ => by
    have hu := (hT t d hd).1
    rw [hk] at hu
    have hp : P.underlying t = some (.pointer (P.pointee t)) := by simp [Program.pointee, hu]
    simp only [execOp, hf.eval hx, hf.eval hy]
    have hr := run_eql_pointer_nil (P := P) w t p hp
    simp [eqGuard_at_pointer, hr]
theorem y_ptr_ne_nil (hT : Tok P T) {d : TI} {e : TypeId} (hd : T.at t = some d) (hk : d.u = .pointer e) {p : Option Addr} (hx : val env x = some (.pointer p)) (hy : val env y = some (.pointer none)) :
    Y P E n ds ⟨dst, .binOp .neq t x y t', ty, pos, af, gd⟩ env l (.bool (!p.isNone)) :=
  Y.of fun a w hf _ => by
    have hu := (hT t d hd).1
    rw [hk] at hu
    have hp : P.underlying t = some (.pointer (P.pointee t)) := by simp [Program.pointee, hu]
    simp only [execOp, hf.eval hx, hf.eval hy]
    have hr := run_neq_pointer_nil (P := P) w t p hp
    simp [eqGuard_at_pointer, hr]
theorem y_bool_eq (hT : Tok P T) {d : TI} (hd : T.at t = some d) (hk : d.u = .bool) {b c : Bool} (hx : val env x = some (.bool b)) (hy : val env y = some (.bool c)) :
    Y P E n ds ⟨dst, .binOp .eql t x y t', ty, pos, af, gd⟩ env l (.bool (b == c)) :=
  Y.of fun a w hf _ => by
    have hu := (hT t d hd).1
    rw [hk] at hu
    simp only [execOp, hf.eval hx, hf.eval hy]
    simp [go_sem, run_eql_bool, hu]
theorem y_bool_ne (hT : Tok P T) {d : TI} (hd : T.at t = some d) (hk : d.u = .bool) {b c : Bool} (hx : val env x = some (.bool b)) (hy : val env y = some (.bool c)) :
    Y P E n ds ⟨dst, .binOp .neq t x y t', ty, pos, af, gd⟩ env l (.bool (b != c)) :=
  Y.of fun a w hf _ => by
    have hu := (hT t d hd).1
    rw [hk] at hu
    simp only [execOp, hf.eval hx, hf.eval hy]
    simp [go_sem, run_neq_bool, hu, bne]
theorem y_nilCheck {p : Addr} (hx : val env x = some (.pointer (some p))) : Y P E n ds ⟨dst, .nilCheck x, ty, pos, af, gd⟩ env l (.pointer (some p)) :=
  Y.of fun a w hf _ => by simp [execOp, hf.eval hx]
theorem y_nilCheckF {f : FuncId} {fs cs : Array Value} (hx : val env x = some (.func (.func f) fs cs)) : Y P E n ds ⟨dst, .nilCheck x, ty, pos, af, gd⟩ env l (.func (.func f) fs cs) :=
  Y.of fun a w hf _ => by simp [execOp, hf.eval hx]
theorem y_nilCheckY {f : Nat} {fs cs : Array Value} (hx : val env x = some (.func (.yield f) fs cs)) : Y P E n ds ⟨dst, .nilCheck x, ty, pos, af, gd⟩ env l (.func (.yield f) fs cs) :=
  Y.of fun a w hf _ => by simp [execOp, hf.eval hx]
theorem y_makeFunc {fn : Fn} {fs cs : List Operand} {us vs : List Value} (h1 : vals env fs = some us) (h2 : vals env cs = some vs) :
    Y P E n ds ⟨dst, .makeFunc fn fs.toArray cs.toArray, ty, pos, af, gd⟩ env l (.func fn us.toArray vs.toArray) :=
  Y.of fun a w hf _ => by simp [execOp, Instr.makeFunc, hf.evals h1, hf.evals h2]
theorem y_fieldAddr (hT : Tok P T) {d f' : TI} {fs : Array Field} {f : Field} {fi b off : Nat} (hd : T.at t = some d) (hk : d.u = .struct fs) (hf : fs[fi]? = some f) (hft : T.at f.type = some f') (hz : Nat.beq f'.size 0 = false)
    (hx : val env x = some (.pointer (some ⟨b, off, none⟩))) : Y P E n ds ⟨dst, .fieldAddr t x fi, ty, pos, af, gd⟩ env l (.pointer (some ⟨b, off + f.offset, none⟩)) :=
  Y.of fun a w hfr _ => by
    have h1 := hT.und w hd
    rw [hk] at h1
    have h2 := hT.siz w hft
    have hz' : f'.size ≠ 0 := by intro e; rw [e] at hz; simp at hz
    simp [execOp, hfr.eval hx, Instr.fieldAt, h1, hf, Instr.sureAddr, fieldPlace, h2, hz', addr_add]
theorem y_indexAddr_slice (hT : Tok P T) {d e' : TI} {e : TypeId} {b off len cap : Nat} (hd : T.at t = some d) (hk : d.u = .slice e) (he : T.at e = some e')
    (hx : val env x = some (.slice (some ⟨b, off, none⟩) len cap)) (hy : val env y = some (.int k i)) (h0 : 0 ≤ i) (h1 : i < len) :
    Y P E n ds ⟨dst, .indexAddr t x y, ty, pos, af, gd⟩ env l (.pointer (some ⟨b, off + i.toNat * e'.size, none⟩)) :=
  Y.of fun a w hfr _ => by
    have g1 := hT.und w hd
    rw [hk] at g1
    have g2 := hT.siz w he
    simp [execOp, hfr.eval hx, hfr.eval hy, Instr.indexAt, asIntOf, g1, h0, h1, g2, addr_add]
theorem y_indexAddr_arr (hT : Tok P T) {d e' : TI} {e : TypeId} {b off len : Nat} (hd : T.at t = some d) (hk : d.u = .array len e) (he : T.at e = some e')
    (hx : val env x = some (.pointer (some ⟨b, off, none⟩))) (hy : val env y = some (.int k i)) (h0 : 0 ≤ i) (h1 : i < len) :
    Y P E n ds ⟨dst, .indexAddr t x y, ty, pos, af, gd⟩ env l (.pointer (some ⟨b, off + i.toNat * e'.size, none⟩)) :=
  Y.of fun a w hfr _ => by
    have g1 := hT.und w hd
    rw [hk] at g1
    have g2 := hT.siz w he
    simp [execOp, hfr.eval hx, hfr.eval hy, Instr.indexAt, asIntOf, g1, h0, h1, g2, addr_add, Instr.sureAddr]
theorem y_load1 (hT : Tok P T) {d : TI} {b off : Nat} (hd : T.at t = some d) (hk : isAggB d.u = false) (hx : val env x = some (.pointer (some ⟨b, off, none⟩))) (hr : Rd1 l b off v) :
    Y P E n ds ⟨dst, .load t x, ty, pos, af, gd⟩ env l v :=
  Y.of fun a w hfr hs => by
    have g1 := hT.agg w hd
    have g2 := hr E w hs
    simp [execOp, hfr.eval hx, Instr.loadAt, Instr.sureAddr, loadVar, g1, hk, g2]
theorem y_loadN (hT : Tok P T) {d : TI} {b off : Nat} {vs : List Value} (hd : T.at t = some d) (hk : isAggB d.u = true) (hx : val env x = some (.pointer (some ⟨b, off, none⟩))) (hr : RdN l b off vs) (hn : vs.length = d.size) :
    Y P E n ds ⟨dst, .load t x, ty, pos, af, gd⟩ env l (.agg vs.toArray) :=
  Y.of fun a w hfr hs => by
    have g1 := hT.agg w hd
    have g2 := hT.siz w hd
    have g3 := run_loadCells_list (P := P) (w := w) ⟨b, off, none⟩ vs (hr.cells hs)
    rw [hn] at g3
    simp [execOp, hfr.eval hx, Instr.loadAt, Instr.sureAddr, loadVar, g1, hk, g2, g3]
theorem y_extract {vs : Array Value} {ix : Nat} (hx : val env x = some (.tuple vs)) (hv : vs[ix]? = some v) : Y P E n ds ⟨dst, .extract x ix, ty, pos, af, gd⟩ env l v :=
  Y.of fun a w hfr _ => by simp [execOp, hfr.eval hx, Instr.extract, hv]
theorem y_field1 (hT : Tok P T) {d f' : TI} {fs : Array Field} {f : Field} {fi : Nat} {cs : Array Value} (hd : T.at t = some d) (hk : d.u = .struct fs) (hf : fs[fi]? = some f) (hft : T.at f.type = some f') (ha : isAggB f'.u = false)
    (hx : val env x = some (.agg cs)) (hv : cs[f.offset]? = some v) : Y P E n ds ⟨dst, .field t x fi, ty, pos, af, gd⟩ env l v :=
  Y.of fun a w hfr _ => by
    have h1 := hT.und w hd
    rw [hk] at h1
    have h2 := hT.agg w hft
    simp [execOp, hfr.eval hx, Instr.field, h1, hf, asAgg, part, h2, ha, hv]
theorem y_fieldN (hT : Tok P T) {d f' : TI} {fs : Array Field} {f : Field} {fi : Nat} {cs : List Value} {vs : List Value} (hd : T.at t = some d) (hk : d.u = .struct fs) (hf : fs[fi]? = some f) (hft : T.at f.type = some f') (ha : isAggB f'.u = true)
    (hx : val env x = some (.agg cs.toArray)) (hv : (cs.drop f.offset).take f'.size = vs) : Y P E n ds ⟨dst, .field t x fi, ty, pos, af, gd⟩ env l (.agg vs.toArray) :=
  Y.of fun a w hfr _ => by
    have h1 := hT.und w hd
    rw [hk] at h1
    have h2 := hT.agg w hft
    have h3 := hT.siz w hft
    subst hv
    simp [execOp, hfr.eval hx, Instr.field, h1, hf, asAgg, part, h2, ha, h3]
theorem y_index1 (hT : Tok P T) {d e' : TI} {e : TypeId} {len : Nat} {cs : List Value} (hd : T.at t = some d) (hk : d.u = .array len e) (he : T.at e = some e') (ha : isAggB e'.u = false) (hsz : e'.size = 1)
    (hx : val env x = some (.agg cs.toArray)) (hy : val env y = some (.int k i)) (h0 : 0 ≤ i) (h1 : i < len) (hv : cs[i.toNat]? = some v) : Y P E n ds ⟨dst, .index t x y, ty, pos, af, gd⟩ env l v :=
  Y.of fun a w hfr _ => by
    have g1 := hT.und w hd
    rw [hk] at g1
    have g2 := hT.agg w he
    have g3 := hT.siz w he
    simp [execOp, hfr.eval hx, hfr.eval hy, Instr.index, asIntOf, g1, h0, h1, g3, hsz, part, g2, ha, hv]
theorem y_len_slice (hT : Tok P T) {d : TI} {e : TypeId} {p : Option Addr} {len cap : Nat} (hd : T.at t = some d) (hk : d.u = .slice e) (hx : val env x = some (.slice p len cap)) :
    Y P E n ds ⟨dst, .call ⟨.builtin .len, #[x], #[t]⟩, ty, pos, af, gd⟩ env l (.int .i64 len) :=
  Y.of fun a w hfr _ => by
    have g1 := hT.und w hd
    rw [hk] at g1
    simp [execOp, resolve, invoke, builtin, hfr.eval hx, Builtin.len_, g1, goInt]
theorem y_len_string (hT : Tok P T) {d : TI} {s : ByteArray} (hd : T.at t = some d) (hk : d.u = .string) (hx : val env x = some (.string s)) :
    Y P E n ds ⟨dst, .call ⟨.builtin .len, #[x], #[t]⟩, ty, pos, af, gd⟩ env l (.int .i64 s.size) :=
  Y.of fun a w hfr _ => by
    have g1 := hT.und w hd
    rw [hk] at g1
    simp [execOp, resolve, invoke, builtin, hfr.eval hx, Builtin.len_, g1, goInt]
theorem y_min2 (hx : val env x = some (.int k i)) (hy : val env y = some (.int k j)) (hr : min i j = m) {ts : Array TypeId} :
    Y P E n ds ⟨dst, .call ⟨.builtin .min, #[x, y], ts⟩, ty, pos, af, gd⟩ env l (.int k m) :=
  Y.of fun a w hfr _ => by
    have : (if j < i then j else i) = m := by rw [← hr]; omega
    simp [execOp, resolve, invoke, builtin, hfr.eval hx, hfr.eval hy, Builtin.min_, Builtin.min2, List.foldlM, this]
theorem y_max2 (hx : val env x = some (.int k i)) (hy : val env y = some (.int k j)) (hr : max i j = m) {ts : Array TypeId} :
    Y P E n ds ⟨dst, .call ⟨.builtin .max, #[x, y], ts⟩, ty, pos, af, gd⟩ env l (.int k m) :=
  Y.of fun a w hfr _ => by
    have : (if i < j then j else i) = m := by rw [← hr]; omega
    simp [execOp, resolve, invoke, builtin, hfr.eval hx, hfr.eval hy, Builtin.max_, Builtin.max2, List.foldlM, this]
/-- s[l:h] of a slice. -/
theorem y_slice (hT : Tok P T) {d e' : TI} {e : TypeId} {b off len cap lo hi : Nat} {p : Option Addr} (hd : T.at t = some d) (hk : d.u = .slice e) (he : T.at e = some e')
    {ol oh : Option Operand} (hx : val env x = some (.slice p len cap))
    (hol : (ol = none ∧ lo = 0) ∨ ∃ o kl il, ol = some o ∧ val env o = some (.int kl il) ∧ il = (lo : Int))
    (hoh : (oh = none ∧ hi = len) ∨ ∃ o kh ih, oh = some o ∧ val env o = some (.int kh ih) ∧ ih = (hi : Int))
    (h1 : lo ≤ hi) (h2 : hi ≤ cap) (hlc : len ≤ cap) (hp : p = some ⟨b, off, none⟩ ∨ cap = 0) :
    Y P E n ds ⟨dst, .slice t x ol oh none, ty, pos, af, gd⟩ env l (.slice (if cap = lo then p else some ⟨b, off + lo * e'.size, none⟩) (hi - lo) (cap - lo)) :=
  Y.of fun a w hfr _ => by
    have g1 := hT.und w hd
    rw [hk] at g1
    have g3 := hT.siz w he
    have hb : (Instr.sliceBounds true len cap (ol.map a.eval) (oh.map a.eval) none).run P w = .ok (lo, hi, cap) w := by
      unfold Instr.sliceBounds
      rcases hol with ⟨rfl, rfl⟩ | ⟨o, kl, il, rfl, ho, rfl⟩ <;> rcases hoh with ⟨rfl, rfl⟩ | ⟨o', kh, ih, rfl, ho', rfl⟩
      · simp
      · have q : (0:Int) ≤ (hi:Int) ∧ (hi:Int) ≤ (cap:Int) := by omega
        simp [Instr.sliceBound, hfr.eval ho', asIntOf, h2]
      · simp [Instr.sliceBound, hfr.eval ho, asIntOf, h1]
      · simp [Instr.sliceBound, hfr.eval ho, hfr.eval ho', asIntOf, h1, h2]
    have hmap : ∀ (q : Option Operand), Option.map a.eval q = q.map a.eval := fun _ => rfl
    rcases hp with rfl | rfl
    · by_cases hc : cap = lo
      · subst hc; simp [execOp, hfr.eval hx, Instr.sliceAt, Instr.slice, g1, hb, g3]
      · simp [execOp, hfr.eval hx, Instr.sliceAt, Instr.slice, g1, hb, g3, hc, addr_add]
    · have : lo = 0 := by omega
      subst this
      cases p <;> simp [execOp, hfr.eval hx, Instr.sliceAt, Instr.slice, g1, hb, g3]
end
end Go.SL
