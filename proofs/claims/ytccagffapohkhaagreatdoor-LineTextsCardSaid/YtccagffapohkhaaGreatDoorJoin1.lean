import Derived.WalkKit
import Derived.Deep.QuietTactic
import Derived.TacticsIn
import Derived.OrdersIn
import Derived.LoopIn
import Derived.Laws.CopyRow
import Derived.Laws.StructEq
import Derived.Laws.MakeOwn
import Derived.Laws.AppendOwn
import Derived.StillTail
import Derived.WalkSpells
import Derived.RangeFuncRecord
import Derived.RangeFuncIn
import Derived.RangeFuncLeaves
import Derived.Laws.Cover3
import Derived.ProofKit
import Derived.Deep.Slices
import Derived.Laws.IdiomCopy
import Derived.Lib.OthersKept
import Derived.Laws.RangeString
import Derived.Laws.BytesString
import Derived.Lib.Builder
import Derived.Lib.AppendZerosOnto
import Derived.Scope
import Derived.Carry
import Derived.Maps.RangeRun
import Derived.WideKeyRuns
import Derived.Lib.MakeNoZero
import Derived.Laws.Externs
import Derived.Sort.LotA
import Derived.Sort.LotB
import Derived.Sort.LotC
import Derived.Sort.LotD3
import Derived.Lib.Tables
import Derived.Lib.AppendStr
import Derived.Lib.ConvBytes
import Derived.WideKeyEntry
import Derived.ChangeMaps3
import Derived.Laws.RangeAny
import Derived.Lib.UnsafeStr
namespace Go.SL
open Go Go.RowKit

abbrev Hp := Nat → Option Obj
abbrev HProp := Hp → Prop

def Hp.disj (h1 h2 : Hp) : Prop := ∀ k, h1 k = none ∨ h2 k = none
def Hp.un (h1 h2 : Hp) : Hp := fun k => match h1 k with | some o => some o | none => h2 k
def Hp.empty : Hp := fun _ => none
def Hp.single (b : Nat) (o : Obj) : Hp := fun k => if k = b then some o else none

def emp : HProp := fun h => h = Hp.empty
def star (A B : HProp) : HProp := fun h => ∃ h1 h2, Hp.disj h1 h2 ∧ h = Hp.un h1 h2 ∧ A h1 ∧ B h2
def stars : List HProp → HProp
  | [] => emp
  | A :: l => star A (stars l)
def blk (b : Nat) (o : Obj) : HProp := fun h => h = Hp.single b o
/-- A row of cells that nobody froze. -/
def row (b : Nat) (e : TypeId) (cs : List Value) : HProp := blk b (.cells cs.toArray e (0, 0))
def ex {α : Type} (F : α → HProp) : HProp := fun h => ∃ x, F x h
/-- The whole heap of a world, as it was. -/
def old (w0 : World) : HProp := fun h => ∀ k, h k = w0.heap[k]?
def pur (p : Prop) : HProp := fun h => p ∧ h = Hp.empty

theorem un_empty_left (h : Hp) : Hp.un Hp.empty h = h := by funext k; simp [Hp.un, Hp.empty]
theorem un_empty_right (h : Hp) : Hp.un h Hp.empty = h := by funext k; simp only [Hp.un, Hp.empty]; cases h k <;> rfl
theorem disj_comm {h1 h2 : Hp} (d : Hp.disj h1 h2) : Hp.disj h2 h1 := fun k => (d k).symm
theorem un_comm {h1 h2 : Hp} (d : Hp.disj h1 h2) : Hp.un h1 h2 = Hp.un h2 h1 := by
  funext k; have := d k; simp only [Hp.un]; cases e1 : h1 k <;> cases e2 : h2 k <;> simp_all
theorem un_assoc (a b c : Hp) : Hp.un (Hp.un a b) c = Hp.un a (Hp.un b c) := by
  funext k; simp only [Hp.un]; cases a k <;> rfl
theorem disj_un_left {a b c : Hp} (h : Hp.disj (Hp.un a b) c) : Hp.disj a c ∧ Hp.disj b c := by
  constructor <;> intro k <;> have := h k <;> simp only [Hp.un] at this <;> cases e1 : a k <;> cases e2 : c k <;> simp_all
theorem disj_un_right {a b c : Hp} (h : Hp.disj a (Hp.un b c)) : Hp.disj a b ∧ Hp.disj a c := by
  have := disj_un_left (disj_comm h); exact ⟨disj_comm this.1, disj_comm this.2⟩
theorem disj_un_mk {a b c : Hp} (h1 : Hp.disj a c) (h2 : Hp.disj b c) : Hp.disj (Hp.un a b) c := by
  intro k; have h1 := h1 k; have h2 := h2 k; simp only [Hp.un]; cases e1 : a k <;> cases e2 : c k <;> simp_all
theorem disj_un_mk' {a b c : Hp} (h1 : Hp.disj a b) (h2 : Hp.disj a c) : Hp.disj a (Hp.un b c) := disj_comm (disj_un_mk (disj_comm h1) (disj_comm h2))

theorem star_comm {A B : HProp} {h : Hp} (s : star A B h) : star B A h := by
  obtain ⟨h1, h2, d, rfl, a, b⟩ := s; exact ⟨h2, h1, disj_comm d, un_comm d, b, a⟩
theorem star_assoc {A B C : HProp} {h : Hp} (s : star (star A B) C h) : star A (star B C) h := by
  obtain ⟨h12, h3, d, rfl, ⟨h1, h2, d', rfl, a, b⟩, c⟩ := s
  have := disj_un_left d
  exact ⟨h1, Hp.un h2 h3, disj_un_mk' d' this.1, un_assoc _ _ _, a, h2, h3, this.2, rfl, b, c⟩
theorem star_assoc' {A B C : HProp} {h : Hp} (s : star A (star B C) h) : star (star A B) C h := by
  obtain ⟨h1, h23, d, rfl, a, h2, h3, d', rfl, b, c⟩ := s
  have := disj_un_right d
  exact ⟨Hp.un h1 h2, h3, disj_un_mk this.2 d', (un_assoc _ _ _).symm, ⟨h1, h2, this.1, rfl, a, b⟩, c⟩
theorem star_mono {A A' B B' : HProp} {h : Hp} (f : ∀ h, A h → A' h) (g : ∀ h, B h → B' h) (s : star A B h) : star A' B' h := by
  obtain ⟨h1, h2, d, e, a, b⟩ := s; exact ⟨h1, h2, d, e, f _ a, g _ b⟩
theorem star_swap {A B C : HProp} {h : Hp} (s : star A (star B C) h) : star B (star A C) h :=
  star_assoc (star_mono (fun _ s => star_comm s) (fun _ s => s) (star_assoc' s))
theorem stars_append (l m : List HProp) (h : Hp) : stars (l ++ m) h ↔ star (stars l) (stars m) h := by
  induction l generalizing h with
  | nil =>
    constructor
    · intro s; exact ⟨Hp.empty, h, fun _ => .inl rfl, (un_empty_left h).symm, rfl, s⟩
    · rintro ⟨h1, h2, _, rfl, e, s⟩; rw [e, un_empty_left]; exact s
  | cons A l ih =>
    constructor
    · intro s; exact star_assoc' (star_mono (fun _ a => a) (fun h' s => (ih h').1 s) s)
    · intro s; exact star_mono (fun _ a => a) (fun h' s => (ih h').2 s) (star_assoc s)

/-- 'l' is 'A' and 'r'. -/
inductive Pick : List HProp → HProp → List HProp → Prop where
  | head {A : HProp} {l : List HProp} : Pick (A :: l) A l
  | tail {A B : HProp} {l r : List HProp} : Pick l A r → Pick (B :: l) A (B :: r)
/-- 'l' is 'p' and 'r'. -/
inductive Split : List HProp → List HProp → List HProp → Prop where
  | nil {l : List HProp} : Split l [] l
  | cons {A : HProp} {l m p r : List HProp} : Pick l A m → Split m p r → Split l (A :: p) r

theorem Pick.iff {l r : List HProp} {A : HProp} (p : Pick l A r) (h : Hp) : stars l h ↔ stars (A :: r) h := by
  induction p generalizing h with
  | head => exact Iff.rfl
  | tail _ ih =>
    constructor
    · intro s; exact star_swap (star_mono (fun _ a => a) (fun h' s => (ih h').1 s) s)
    · intro s; exact star_mono (fun _ a => a) (fun h' s => (ih h').2 s) (star_swap s)
theorem Split.iff {l p r : List HProp} (s : Split l p r) (h : Hp) : stars l h ↔ stars (p ++ r) h := by
  induction s generalizing h with
  | nil => exact Iff.rfl
  | cons p _ ih =>
    rw [p.iff h]
    constructor
    · intro s; exact star_mono (fun _ a => a) (fun h' s => (ih h').1 s) s
    · intro s; exact star_mono (fun _ a => a) (fun h' s => (ih h').2 s) s

/-- What a world is like: the streams of E, and a part of the heap that A tells. -/
structure Sat (E : World) (A : HProp) (w : World) : Prop where
  os : w.os = E.os
  tape : w.tape = E.tape
  output : w.output = E.output
  heap : ∃ h : Hp, (∀ k o, h k = some o → w.heap[k]? = some o) ∧ A h

theorem Sat.imp {E w : World} {A B : HProp} (s : Sat E A w) (f : ∀ h, A h → B h) : Sat E B w :=
  ⟨s.os, s.tape, s.output, let ⟨h, hs, a⟩ := s.heap; ⟨h, hs, f _ a⟩⟩
theorem Sat.pick {E w : World} {l r : List HProp} {A : HProp} (s : Sat E (stars l) w) (p : Pick l A r) : Sat E (stars (A :: r)) w := s.imp fun h => (p.iff h).1
theorem Sat.unpick {E w : World} {l r : List HProp} {A : HProp} (s : Sat E (stars (A :: r)) w) (p : Pick l A r) : Sat E (stars l) w := s.imp fun h => (p.iff h).2
theorem Sat.divide {E w : World} {l p r : List HProp} (s : Sat E (stars l) w) (hp : Split l p r) : Sat E (stars (p ++ r)) w := s.imp fun h => (hp.iff h).1
theorem Sat.drop {E w : World} {l : List HProp} {A : HProp} (s : Sat E (stars (A :: l)) w) : Sat E (stars l) w :=
  ⟨s.os, s.tape, s.output, by
    obtain ⟨h, hs, h1, h2, d, rfl, _, b⟩ := s.heap
    refine ⟨h2, fun k o e => hs k o ?_, b⟩
    have := d k; simp only [Hp.un]; cases e1 : h1 k <;> simp_all⟩
theorem Sat.drew {E w : World} {A : HProp} (s : Sat E A w) : Sat E A w.drew := ⟨s.os, s.tape, s.output, s.heap⟩
theorem Sat.drawn {E w : World} {A : HProp} (s : Sat E A w) (n : Nat) : Sat E A { w with drawn := n } := ⟨s.os, s.tape, s.output, s.heap⟩
theorem Sat.ofex {E w : World} {l : List HProp} {α : Type} {F : α → HProp} (s : Sat E (stars (ex F :: l)) w) : ∃ x, Sat E (stars (F x :: l)) w := by
  obtain ⟨h, hs, h1, h2, d, rfl, ⟨x, a⟩, b⟩ := s.heap
  exact ⟨x, s.os, s.tape, s.output, _, hs, h1, h2, d, rfl, a, b⟩
theorem Sat.toex {E w : World} {l : List HProp} {α : Type} {F : α → HProp} (x : α) (s : Sat E (stars (F x :: l)) w) : Sat E (stars (ex F :: l)) w :=
  s.imp fun _ s => star_mono (fun _ a => ⟨x, a⟩) (fun _ b => b) s
theorem Sat.ofpur {E w : World} {l : List HProp} {p : Prop} (s : Sat E (stars (pur p :: l)) w) : p ∧ Sat E (stars l) w := by
  refine ⟨?_, s.drop⟩
  obtain ⟨h, hs, h1, h2, d, rfl, a, b⟩ := s.heap
  exact a.1
theorem Sat.topur {E w : World} {l : List HProp} {p : Prop} (hp : p) (s : Sat E (stars l) w) : Sat E (stars (pur p :: l)) w :=
  s.imp fun h s => ⟨Hp.empty, h, fun _ => .inl rfl, (un_empty_left h).symm, ⟨hp, rfl⟩, s⟩
theorem Sat.unfold {E w : World} {l m : List HProp} (s : Sat E (stars (stars m :: l)) w) : Sat E (stars (m ++ l)) w := s.imp fun h => (stars_append m l h).2
theorem Sat.fold {E w : World} {l m : List HProp} (s : Sat E (stars (m ++ l)) w) : Sat E (stars (stars m :: l)) w := s.imp fun h => (stars_append m l h).1

theorem Sat.block {E w : World} {l : List HProp} {b : Nat} {o : Obj} (s : Sat E (stars (blk b o :: l)) w) : w.heap[b]? = some o := by
  obtain ⟨h, hs, h1, h2, d, rfl, a, _⟩ := s.heap
  refine hs b o ?_
  have a : h1 = _ := a
  simp [Hp.un, a, Hp.single]
theorem Sat.elder {E w w0 : World} {l : List HProp} (s : Sat E (stars (old w0 :: l)) w) {b : Nat} {o : Obj} (ho : w0.heap[b]? = some o) : w.heap[b]? = some o := by
  obtain ⟨h, hs, h1, h2, d, rfl, a, _⟩ := s.heap
  refine hs b o ?_
  have a : h1 b = _ := a b
  simp [Hp.un, a, ho]

/-- A new block. -/
theorem Sat.alloc {E w : World} {l : List HProp} (s : Sat E (stars l) w) (o : Obj) : Sat E (stars (blk w.heap.size o :: l)) (w.alloc o) := by
  refine ⟨s.os, s.tape, s.output, ?_⟩
  obtain ⟨h, hs, a⟩ := s.heap
  have hn : ∀ k, h k ≠ none → k < w.heap.size := by
    intro k hk
    cases e : h k with
    | none => exact (hk e).elim
    | some o' => exact (Array.getElem?_eq_some_iff.1 (hs k o' e)).1
  refine ⟨Hp.un (Hp.single w.heap.size o) h, ?_, Hp.single w.heap.size o, h, ?_, rfl, rfl, a⟩
  · intro k o' e
    show (w.heap.push o)[k]? = some o'
    simp only [Hp.un, Hp.single] at e
    by_cases hk : k = w.heap.size
    · rw [if_pos hk] at e; cases e; rw [hk]; simp
    · rw [if_neg hk] at e
      have := hs k o' e
      rw [Array.getElem?_push, if_neg (by omega)]; exact this
  · intro k
    by_cases hk : k = w.heap.size
    · right
      cases e : h k with
      | none => rfl
      | some o' => exact absurd (hn k (by simp [e])) (by omega)
    · left; simp [Hp.single, hk]

/-- A block that is owned is turned. -/
theorem Sat.turn {E w w' : World} {l : List HProp} {b : Nat} {o o' : Obj} (s : Sat E (stars (blk b o :: l)) w)
    (hos : w'.os = w.os) (ht : w'.tape = w.tape) (ho : w'.output = w.output)
    (hb : w'.heap[b]? = some o') (hk : ∀ k, k ≠ b → w'.heap[k]? = w.heap[k]?) : Sat E (stars (blk b o' :: l)) w' := by
  refine ⟨hos.trans s.os, ht.trans s.tape, ho.trans s.output, ?_⟩
  obtain ⟨h, hs, h1, h2, d, rfl, a, r⟩ := s.heap
  have a : h1 = Hp.single b o := a
  subst a
  have hd : ∀ k, (h2 k ≠ none) → k ≠ b := by
    intro k hk e
    have := d k
    simp [Hp.single, e] at this
    exact hk (e ▸ this)
  refine ⟨Hp.un (Hp.single b o') h2, ?_, Hp.single b o', h2, ?_, rfl, rfl, r⟩
  · intro k o'' e
    simp only [Hp.un, Hp.single] at e
    by_cases hkb : k = b
    · rw [if_pos hkb] at e; cases e; rw [hkb]; exact hb
    · rw [if_neg hkb] at e
      rw [hk k hkb]
      exact hs k o'' (by simp [Hp.un, Hp.single, hkb]; exact e)
  · intro k
    by_cases hkb : k = b
    · right
      cases e : h2 k with
      | none => rfl
      | some _ => exact absurd hkb (hd k (by simp [e]))
    · left; simp [Hp.single, hkb]

theorem Sat.set {E w : World} {l : List HProp} {b : Nat} {e : TypeId} {cs : List Value} (s : Sat E (stars (row b e cs :: l)) w) (i : Nat) (v : Value) :
    Sat E (stars (row b e (cs.set i v) :: l)) (w.setCell ⟨b, i, none⟩ v) := by
  have hb := s.block
  refine s.turn rfl rfl rfl ?_ fun k hk => Below.heap_setCell _ _ _ _ hk
  simp only [World.setCell, Array.getElem?_modify, if_true, hb, Option.map_some]
  simp

theorem Sat.cell {E w : World} {l : List HProp} {b : Nat} {e : TypeId} {cs : List Value} (s : Sat E (stars (row b e cs :: l)) w) (i : Nat) :
    w.cell? ⟨b, i, none⟩ = cs[i]? := by
  have hb := s.block
  simp [World.cell?, hb]
theorem Sat.free {E w : World} {l : List HProp} {b : Nat} {e : TypeId} {cs : List Value} (s : Sat E (stars (row b e cs :: l)) w) (i : Nat) :
    w.frozen? ⟨b, i, none⟩ = false := by
  have hb := s.block
  simp [World.frozen?, hb]
theorem Sat.shape {E w : World} {l : List HProp} {b : Nat} {e : TypeId} {cs : List Value} (s : Sat E (stars (row b e cs :: l)) w) :
    w.shape? b = some (e, cs.length) := by
  have hb := s.block
  simp [World.shape?, hb]
end Go.SL
namespace Go.SL
open Go Go.RowKit

abbrev Fr := List (Nat × Value)
def look : Fr → Nat → Option Value
  | [], _ => none
  | (d, v) :: r, t => bif Nat.beq d t then some v else look r t
structure Frm (n : Nat) (ds : List Deferred) (env : Fr) (a : Act) : Prop where
  size : a.tmps.size = n
  defers : a.defers = ds
  slot : ∀ t v, look env t = some v → a.tmps[t]? = some v
def val (env : Fr) : Operand → Option Value
  | .tmp t => look env t
  | .const v => some v
  | .global g => some (.pointer (some ⟨g, 0, none⟩))
  | .func f => some (.func (.func f) #[] #[])
def vals (env : Fr) : List Operand → Option (List Value)
  | [] => some []
  | x :: r => match val env x with
    | none => none
    | some v => match vals env r with
      | none => none
      | some vs => some (v :: vs)

section
variable {n : Nat} {ds : List Deferred} {env : Fr} {a : Act}
theorem Frm.eval (h : Frm n ds env a) {x : Operand} {v : Value} (e : val env x = some v) : a.eval x = v := by
  cases x with
  | tmp t => have := h.slot t v e; simp [Act.eval, Array.getD_eq_getD_getElem?, this]
  | const u => exact Option.some.inj e
  | global g => exact Option.some.inj e
  | func f => exact Option.some.inj e
theorem Frm.evals (h : Frm n ds env a) : ∀ {l : List Operand} {vs : List Value}, vals env l = some vs → l.map a.eval = vs
  | [], _, e => by simp [vals] at e; simp [e]
  | x :: r, vs, e => by
    simp only [vals] at e
    cases e1 : val env x with
    | none => simp [e1] at e
    | some v =>
      cases e2 : vals env r with
      | none => simp [e1, e2] at e
      | some us =>
        simp [e1, e2] at e
        subst e
        simp [h.eval e1, h.evals e2]
theorem look_cons_ne {d t : Nat} {v : Value} {r : Fr} (h : d ≠ t) : look ((d, v) :: r) t = look r t := by
  have : Nat.beq d t = false := by cases e : Nat.beq d t with | false => rfl | true => exact absurd (Nat.eq_of_beq_eq_true e) h
  simp [look, this]
theorem look_cons_eq {d : Nat} {v : Value} {r : Fr} : look ((d, v) :: r) d = some v := by
  simp [look]
theorem Frm.put (h : Frm n ds env a) {d : Nat} (v : Value) (hd : Nat.blt d n = true) : Frm n ds ((d, v) :: env) (a.put (some d) v) := by
  have hd' : d < a.tmps.size := by rw [h.size]; exact Nat.blt_eq.mp hd
  refine ⟨by simp [Act.put, h.size], h.defers, fun t u e => ?_⟩
  by_cases hdt : d = t
  · subst hdt
    rw [look_cons_eq] at e
    cases e
    simp [Act.put, hd']
  · rw [look_cons_ne hdt] at e
    simp [Act.put, hdt, h.slot t u e]
theorem Frm.weak (h : Frm n ds env a) {env' : Fr} (hw : ∀ t v, look env' t = some v → look env t = some v) : Frm n ds env' a :=
  ⟨h.size, h.defers, fun t v e => h.slot t v (hw t v e)⟩
end

/-- The fence that bars nothing; ρ: the round of which loop this is. -/
def Fw (ρ : Option Nat) : Fence := { Fence.wide with round := ρ }
def nd (o : Oper) : Bool := match o.op with
  | .defer _ => false
  | _ => true
theorem nd_spec {o : Oper} (h : nd o = true) : ∀ c, o.op ≠ .defer c := fun c e => by simp [nd, e] at h
theorem semAt_of {o : Oper} (h : nd o = true) (ρ : Option Nat) (f : Operand → Value) : o.semAt ρ f = execOp f o := by
  cases ρ with
  | none => simp [Oper.semAt]
  | some l => exact Oper.semAt_some l f o (nd_spec h)
theorem calls_in {ρ : Option Nat} {k : Nat} {P : Program} {f : FuncId} {args : Array Value} {w : World} {R : Ending → World → Prop} (h : Calls P f args w R) : CallsIn (Fw ρ) k P f args w R := (callsIn_wide (n := k)).2 h
theorem rows_in {ρ : Option Nat} {k : Nat} {P : Program} {row : String} {args : Array Value} {w : World} {R : Value → World → Prop} (h : Rows P row args w R) : RowsIn (Fw ρ) k P row args w R := fun c cs _ =>
  let ⟨v, w', r, st⟩ := h c cs
  ⟨v, w', r, stepsIn_wide.2 st⟩
/-- What an operation does in any frame it does in a round's. -/
theorem op_in {ρ : Option Nat} {k : Nat} {P : Program} {o : Oper} {a : Act} {w : World} {K : Act → World → Prop} {Q : Exit → Act → World → Prop} (hnd : nd o = true) (h : o.wp P a w K Q) : o.wpIn (Fw ρ) k P a w K Q := by
  refine ⟨fun _ _ => trivial, ?_⟩
  rw [show (Fw ρ).round = ρ from rfl, semAt_of hnd]
  unfold Oper.wp at h
  generalize (execOp a.eval o).run P w = q at *
  cases q with
  | ok x w' =>
    cases x <;> simp only [Oper.upon, Oper.uponIn] at * <;> first | exact h | skip
    · exact ⟨fun e => by simp [Fw, Fence.wide] at e, calls_in (Calls.mono h fun e w'' he => by cases e <;> exact he)⟩
    · exact ⟨fun e => by simp [Fw, Fence.wide] at e, rows_in h⟩
  | halt x w' => cases x <;> simp only [Oper.upon, Oper.uponIn] at * <;> exact h

section
variable (P : Program) (E : World) (ρ : Option Nat) (n : Nat) (ds : List Deferred)
/-- From every world that the list tells, in every frame that the slots tell. -/
def J (c : Code) (Q : Exit → Act → World → Prop) (env : Fr) (l : List HProp) : Prop :=
  ∀ a w, Frm n ds env a → Sat E (stars l) w → c.wpIn (Fw ρ) 0 P Q a w
def JL (ops : Array Oper) (Q : Exit → Act → World → Prop) (rest : List Oper) (env : Fr) (l : List HProp) : Prop :=
  ∀ a w, Frm n ds env a → Sat E (stars l) w → wpListIn (Fw ρ) 0 P ops Q rest a w
end
section
variable (P : Program) (E : World) (n : Nat) (ds : List Deferred)
def JE (Q : Exit → Act → World → Prop) (e : Exit) (env : Fr) (l : List HProp) : Prop :=
  ∀ a w, Frm n ds env a → Sat E (stars l) w → Q e a w
/-- The operation yields v, and what the list tells stays so. -/
def Y (o : Oper) (env : Fr) (l : List HProp) (v : Value) : Prop :=
  ∀ a w, Frm n ds env a → Sat E (stars l) w → o.quietAt P a (Sat E (stars l)) w v
end

section
variable {P : Program} {E : World} {ρ : Option Nat} {n : Nat} {ds : List Deferred} {Q : Exit → Act → World → Prop} {env : Fr} {l : List HProp}

theorem J.seq {x y : Code} (h : J P E ρ n ds x (Exit.then (y.wpIn (Fw ρ) 0 P Q) Q) env l) : J P E ρ n ds (.seq x y) Q env l := fun a w hf hs => wpIn_seq (h a w hf hs)
theorem J.skip (h : JE E n ds Q .normal env l) : J P E ρ n ds .skip Q env l := fun a w hf hs => wpIn_skip (h a w hf hs)
theorem J.ret (h : JE E n ds Q .ret env l) : J P E ρ n ds .ret Q env l := fun a w hf hs => wpIn_ret (h a w hf hs)
theorem J.exit {id : Nat} (h : JE E n ds Q (.exit id) env l) : J P E ρ n ds (.exit id) Q env l := fun a w hf hs => wpIn_exit (h a w hf hs)
theorem J.block {id : Nat} {c : Code} (h : J P E ρ n ds c (Exit.inBlock id Q) env l) : J P E ρ n ds (.block id c) Q env l := fun a w hf hs => wpIn_block (h a w hf hs)
theorem J.region {id : Nat} {ops : List Oper} (h : JL P E ρ n ds ops.toArray Q ops env l) : J P E ρ n ds (.region id ops.toArray false) Q env l := fun a w hf hs => wpIn_region_lit (h a w hf hs)
theorem J.cond {c : Operand} {x y : Code} {b : Bool} (hc : val env c = some (.bool b)) (ht : b = true → J P E ρ n ds x Q env l) (hf : b = false → J P E ρ n ds y Q env l) :
    J P E ρ n ds (.cond c x y) Q env l := fun a w hfr hs => wpIn_cond_split (hfr.eval hc) (fun e => ht e a w hfr hs) (fun e => hf e a w hfr hs)
theorem J.cond_dec {c : Operand} {x y : Code} {p : Prop} {hp : Decidable p} (hc : val env c = some (.bool (decide p))) (ht : p → J P E ρ n ds x Q env l) (hf : ¬ p → J P E ρ n ds y Q env l) :
    J P E ρ n ds (.cond c x y) Q env l := J.cond hc (fun e => ht (of_decide_eq_true e)) (fun e => hf (of_decide_eq_false e))
theorem J.cond_t {c : Operand} {x y : Code} {b : Bool} (hc : val env c = some (.bool b)) (hb : b = true) (h : J P E ρ n ds x Q env l) :
    J P E ρ n ds (.cond c x y) Q env l := J.cond hc (fun _ => h) (fun e => by simp [hb] at e)
theorem J.cond_f {c : Operand} {x y : Code} {b : Bool} (hc : val env c = some (.bool b)) (hb : b = false) (h : J P E ρ n ds y Q env l) :
    J P E ρ n ds (.cond c x y) Q env l := J.cond hc (fun e => by simp [hb] at e) (fun _ => h)

theorem JE.then_normal {c : Code} (h : J P E ρ n ds c Q env l) : JE E n ds (Exit.then (c.wpIn (Fw ρ) 0 P Q) Q) .normal env l := h
theorem JE.then_ret {N : Act → World → Prop} (h : JE E n ds Q .ret env l) : JE E n ds (Exit.then N Q) .ret env l := h
theorem JE.then_exit {N : Act → World → Prop} {i : Nat} (h : JE E n ds Q (.exit i) env l) : JE E n ds (Exit.then N Q) (.exit i) env l := h
theorem JE.block_normal {id : Nat} (h : JE E n ds Q .normal env l) : JE E n ds (Exit.inBlock id Q) .normal env l := h
theorem JE.block_ret {id : Nat} (h : JE E n ds Q .ret env l) : JE E n ds (Exit.inBlock id Q) .ret env l := h
theorem JE.block_exit {id : Nat} (h : JE E n ds Q .normal env l) : JE E n ds (Exit.inBlock id Q) (.exit id) env l := fun a w hf hs => by
  simp only [Exit.inBlock, if_true]; exact h a w hf hs
theorem JE.block_past {id i : Nat} (hi : Nat.beq i id = false) (h : JE E n ds Q (.exit i) env l) : JE E n ds (Exit.inBlock id Q) (.exit i) env l := fun a w hf hs => by
  have : i ≠ id := by intro e; subst e; simp at hi
  simp only [Exit.inBlock, this, if_false]; exact h a w hf hs

theorem JL.nil {ops : Array Oper} (h : JE E n ds Q .normal env l) : JL P E ρ n ds ops Q [] env l := fun a w hf hs => h a w hf hs

theorem JL.step {ops : Array Oper} {o : Oper} {rest : List Oper} {d : Nat} {v : Value} (hy : Y P E n ds o env l v) (hg : o.guard = none) (hd : o.dst = some d) (hn : Nat.blt d n = true)
    (h : JL P E ρ n ds ops Q rest ((d, v) :: env) l) (hnd : nd o = true := by rfl) : JL P E ρ n ds ops Q (o :: rest) env l := fun a w hf hs => by
  refine wpListIn_plain hg fun K hK => op_in hnd ?_
  refine Oper.wp_of_quiet (C := Sat E (stars l)) hs (K := fun a' => Frm n ds ((d, v) :: env) a') (fun a' w' hw' hf' => hK _ _ (h a' w' hf' hw')) ?_
  exact ⟨v, fun w' hw' => hy a w' hf hw', by rw [hd]; exact hf.put v hn⟩
/-- An operation whose guard says no is passed over. -/
theorem yielded_of {ops : Array Oper} {a : Act} (hf : Frm n ds env a) {j t : Nat} {b : Bool} (hd : (ops[j]?).bind (·.dst) = some t) (hv : look env t = some (.bool b)) : yielded ops a.tmps j = some b := by
  simp [yielded, hd, hf.slot t _ hv]
theorem JL.gstep {ops : Array Oper} {o : Oper} {rest : List Oper} {d j t : Nat} {b : Bool} {v : Value} (hg : o.guard = some (j, b)) (hgd : (ops[j]?).bind (·.dst) = some t) (hgv : look env t = some (.bool b))
    (hy : Y P E n ds o env l v) (hd : o.dst = some d) (hn : Nat.blt d n = true)
    (h : JL P E ρ n ds ops Q rest ((d, v) :: env) l) (hnd : nd o = true := by rfl) : JL P E ρ n ds ops Q (o :: rest) env l := fun a w hf hs => by
  refine wpListIn_step fun K hK => ?_
  rw [if_pos (by simp [Region.wanted, hg, yielded_of hf hgd hgv])]
  refine op_in hnd ?_
  refine Oper.wp_of_quiet (C := Sat E (stars l)) hs (K := fun a' => Frm n ds ((d, v) :: env) a') (fun a' w' hw' hf' => hK _ _ (h a' w' hf' hw')) ?_
  exact ⟨v, fun w' hw' => hy a w' hf hw', by rw [hd]; exact hf.put v hn⟩
theorem JL.gskip {ops : Array Oper} {o : Oper} {rest : List Oper} {d j t : Nat} {b c : Bool} (hg : o.guard = some (j, b)) (hgd : (ops[j]?).bind (·.dst) = some t) (hgv : look env t = some (.bool c)) (hne : c = !b)
    (hd : o.dst = some d) (hn : Nat.blt d n = true)
    (h : JL P E ρ n ds ops Q rest ((d, undef) :: env) l) : JL P E ρ n ds ops Q (o :: rest) env l := fun a w hf hs => by
  refine wpListIn_step fun K hK => ?_
  rw [if_neg (by simp [Region.wanted, hg, yielded_of hf hgd hgv, hne])]
  exact ⟨fun _ _ => trivial, hK _ _ (h _ w (by rw [hd]; exact hf.put _ hn) hs)⟩
end

/-- A value operation that leaves the world alone. -/
theorem Y.of {P : Program} {E : World} {n : Nat} {ds : List Deferred} {env : Fr} {l : List HProp} {o : Oper} {v : Value}
    (h : ∀ a w, Frm n ds env a → Sat E (stars l) w → (execOp a.eval o).run P w = .ok (.value v) w) : Y P E n ds o env l v := fun a w hf hs => by
  unfold Oper.quietAt; rw [h a w hf hs]; exact ⟨rfl, rfl⟩
end Go.SL
namespace Go.SL
open Go Go.RowKit

/-- What a rule asks of a type. -/
structure TI where
  u : TypeDesc
  size : Nat
  bytes : Nat
  zero : Option Value
abbrev Tab := List (TypeId × TI)
def Tab.at (T : Tab) (t : TypeId) : Option TI :=
  match T with
  | [] => none
  | (d, i) :: r => bif Nat.beq d t then some i else Tab.at r t
def Tok (P : Program) (T : Tab) : Prop := ∀ t i, T.at t = some i → P.underlying t = some i.u ∧ ∃ j, P.info? t = some j ∧ j.size = i.size ∧ j.bytes = i.bytes ∧ j.zero = i.zero
theorem Tok.nil {P : Program} : Tok P [] := fun t i h => by simp [Tab.at] at h
theorem Tok.cons {P : Program} {T : Tab} {d : TypeId} {i : TI} (hu : P.underlying d = some i.u) (hi : (P.info? d).map (fun j => (j.size, j.bytes, j.zero)) = some (i.size, i.bytes, i.zero)) (h : Tok P T) : Tok P ((d, i) :: T) := by
  intro t j e
  simp only [Tab.at] at e
  cases hb : Nat.beq d t with
  | false => rw [hb] at e; exact h t j e
  | true =>
    rw [hb] at e
    have : d = t := Nat.eq_of_beq_eq_true hb
    subst this
    cases e
    refine ⟨hu, ?_⟩
    obtain ⟨x, hx, hy⟩ := Option.map_eq_some_iff.1 hi
    simp only [Prod.mk.injEq] at hy
    exact ⟨x, hx, hy.1, hy.2.1, hy.2.2⟩
def isAggB : TypeDesc → Bool
  | .struct _ | .array _ _ => true
  | _ => false

section
variable {P : Program} {T : Tab} {t : TypeId} {i : TI} (hT : Tok P T) (w : World)
include hT
theorem Tok.und (h : T.at t = some i) : (underlying t).run P w = .ok i.u w := run_underlying (hT t i h).1 w
theorem Tok.siz (h : T.at t = some i) : (sizeOf t).run P w = .ok i.size w := by
  obtain ⟨_, j, hj, hs, _, _⟩ := hT t i h
  simp [sizeOf, typeInfo, hj, hs]
theorem Tok.zer {z : Value} (h : T.at t = some i) (hz : i.zero = some z) : (zeroValue t).run P w = .ok z w := by
  obtain ⟨_, j, hj, _, _, hz'⟩ := hT t i h
  simp [zeroValue, typeInfo, hj, hz', hz]
theorem Tok.agg (h : T.at t = some i) : (isAgg t).run P w = .ok (isAggB i.u) w := by
  unfold isAgg
  simp only [Sem.run_bind, hT.und w h, Result.andThen_ok]
  cases i.u <;> rfl
end

/-- The list tells a cell. -/
def Rd1 (l : List HProp) (b off : Nat) (v : Value) : Prop := ∀ E w, Sat E (stars l) w → w.cell? ⟨b, off, none⟩ = some v
theorem Rd1.row {l r : List HProp} {b off : Nat} {e : TypeId} {cs : List Value} {v : Value} (p : Pick l (row b e cs) r) (h : cs[off]? = some v) : Rd1 l b off v :=
  fun _ _ s => (s.pick p).cell off ▸ h
theorem Rd1.old {l r : List HProp} {b off : Nat} {w0 : World} {v : Value} (p : Pick l (old w0) r) (h : w0.cell? ⟨b, off, none⟩ = some v) : Rd1 l b off v := fun E w s => by
  have s := s.pick p
  unfold World.cell? at h ⊢
  dsimp only at h ⊢
  cases e : w0.heap[b]? with
  | none => simp [e] at h
  | some o => rw [s.elder e]; rw [e] at h; exact h
/-- The list tells cells. -/
def RdN (l : List HProp) (b off : Nat) (vs : List Value) : Prop := ∀ j v, vs[j]? = some v → Rd1 l b (off + j) v
theorem RdN.row {l r : List HProp} {b off n : Nat} {e : TypeId} {cs vs : List Value} (p : Pick l (SL.row b e cs) r) (h : (cs.drop off).take n = vs) : RdN l b off vs := fun j v hj => by
  refine Rd1.row p ?_
  subst h
  rw [List.getElem?_take] at hj
  split at hj
  · rw [List.getElem?_drop] at hj; exact hj
  · simp at hj
theorem RdN.nil {l : List HProp} {b off : Nat} : RdN l b off [] := fun j v h => by simp at h
theorem RdN.sub {l : List HProp} {b off : Nat} {vs us : List Value} (h : RdN l b off vs) (k n : Nat) (he : (vs.drop k).take n = us) : RdN l b (off + k) us := fun j v hj => by
  subst he
  rw [List.getElem?_take] at hj
  split at hj
  · rw [List.getElem?_drop] at hj
    have := h (k + j) v hj
    rwa [Nat.add_assoc]
  · simp at hj
theorem RdN.cells {l : List HProp} {b off : Nat} {vs : List Value} (h : RdN l b off vs) {E w : World} (s : Sat E (stars l) w) : ∀ j v, vs[j]? = some v → w.cell? ((⟨b, off, none⟩ : Addr).add j) = some v := fun j v hj => by
  rw [show (⟨b, off, none⟩ : Addr).add j = ⟨b, off + j, none⟩ by unfold Addr.add; split <;> simp_all]
  exact h j v hj E w s

theorem addr_add (b o j : Nat) : (⟨b, o, none⟩ : Addr).add j = ⟨b, o + j, none⟩ := by unfold Addr.add; split <;> simp_all

section
variable {P : Program} {E : World} {n : Nat} {ds : List Deferred} {env : Fr} {l : List HProp} {T : Tab}
variable {dst : Option Tmp} {ty : TypeId} {pos : String} {af : Array Edge} {gd : Option (Nat × Bool)} {x y z : Operand} {v u : Value} {t t' : TypeId}

theorem y_move (h : val env x = some v) : Y P E n ds ⟨dst, .move x, ty, pos, af, gd⟩ env l v := Y.of fun a w hf _ => by simp [execOp, hf.eval h]
theorem y_assign (h : val env x = some v) : Y P E n ds ⟨dst, .assign x, ty, pos, af, gd⟩ env l v := Y.of fun a w hf _ => by simp [execOp, hf.eval h]
theorem y_pick {b : Bool} (h : val env x = some (.bool b)) (h1 : val env y = some v) (h2 : val env z = some u) : Y P E n ds ⟨dst, .pick x y z, ty, pos, af, gd⟩ env l (bif b then v else u) :=
  Y.of fun a w hf _ => by cases b <;> simp [execOp, hf.eval h, hf.eval h1, hf.eval h2, asBool]

variable {k k' : IntKind} {i j m : Int}
theorem y_add (hx : val env x = some (.int k i)) (hy : val env y = some (.int k j)) (hr : k.wrap (i + j) = m) : Y P E n ds ⟨dst, .binOp .add t x y t', ty, pos, af, gd⟩ env l (.int k m) :=
  Y.of fun a w hf _ => by (simp only [execOp, hf.eval hx, hf.eval hy]; simp [go_sem, hr])
theorem y_sub (hx : val env x = some (.int k i)) (hy : val env y = some (.int k j)) (hr : k.wrap (i - j) = m) : Y P E n ds ⟨dst, .binOp .sub t x y t', ty, pos, af, gd⟩ env l (.int k m) :=
  Y.of fun a w hf _ => by (simp only [execOp, hf.eval hx, hf.eval hy]; simp [go_sem, hr])
theorem y_mul (hx : val env x = some (.int k i)) (hy : val env y = some (.int k j)) (hr : k.wrap (i * j) = m) : Y P E n ds ⟨dst, .binOp .mul t x y t', ty, pos, af, gd⟩ env l (.int k m) :=
  Y.of fun a w hf _ => by (simp only [execOp, hf.eval hx, hf.eval hy]; simp [go_sem, hr])
theorem y_shl (hx : val env x = some (.int k i)) (hy : val env y = some (.int k' j)) (h0 : 0 ≤ j) (hr : k.wrap (i * 2 ^ (min j.toNat k.bits)) = m) : Y P E n ds ⟨dst, .binOp .shl t x y t', ty, pos, af, gd⟩ env l (.int k m) :=
  Y.of fun a w hf _ => by (subst hr; simp only [execOp, hf.eval hx, hf.eval hy, eqGuard_shl, binOp_shl, Op.shift, show ¬ j < 0 by omega, if_false]; rfl)
theorem y_shr (hx : val env x = some (.int k i)) (hy : val env y = some (.int k' j)) (h0 : 0 ≤ j) (hr : i.fdiv (2 ^ (min j.toNat k.bits)) = m) : Y P E n ds ⟨dst, .binOp .shr t x y t', ty, pos, af, gd⟩ env l (.int k m) :=
  Y.of fun a w hf _ => by (subst hr; simp only [execOp, hf.eval hx, hf.eval hy, eqGuard_shr, binOp_shr, Op.shift, show ¬ j < 0 by omega, if_false]; rfl)
def bitsE (op : BinOp) (k : IntKind) (i j : Int) : Option Int :=
  let a := BitVec.ofInt k.bits i
  let b := BitVec.ofInt k.bits j
  match op with
  | .and => some (k.wrap (a &&& b).toNat)
  | .or => some (k.wrap (a ||| b).toNat)
  | .xor => some (k.wrap (a ^^^ b).toNat)
  | .andNot => some (k.wrap (a &&& ~~~b).toNat)
  | _ => none
theorem y_bits {op : BinOp} (hx : val env x = some (.int k i)) (hy : val env y = some (.int k j)) (hr : bitsE op k i j = some m) : Y P E n ds ⟨dst, .binOp op t x y t', ty, pos, af, gd⟩ env l (.int k m) :=
  Y.of fun a w hf _ => by
    cases op <;> simp only [bitsE, Option.some.injEq, reduceCtorEq] at hr
    · subst hr; simp only [execOp, hf.eval hx, hf.eval hy, eqGuard_and, binOp_and, Op.intBits]; rfl
    · subst hr; simp only [execOp, hf.eval hx, hf.eval hy, eqGuard_or, binOp_or, Op.intBits]; rfl
    · subst hr; simp only [execOp, hf.eval hx, hf.eval hy, eqGuard_xor, binOp_xor, Op.intBits]; rfl
    · subst hr; simp only [execOp, hf.eval hx, hf.eval hy, eqGuard_andNot, binOp_andNot, Op.intBits]; rfl
theorem y_eql (hx : val env x = some (.int k i)) (hy : val env y = some (.int k j)) : Y P E n ds ⟨dst, .binOp .eql t x y t', ty, pos, af, gd⟩ env l (.bool (decide (i = j))) :=
  Y.of fun a w hf _ => by (simp only [execOp, hf.eval hx, hf.eval hy]; simp [go_sem]; rfl)
theorem y_neq (hx : val env x = some (.int k i)) (hy : val env y = some (.int k j)) : Y P E n ds ⟨dst, .binOp .neq t x y t', ty, pos, af, gd⟩ env l (.bool (decide (¬ i = j))) :=
  Y.of fun a w hf _ => by (simp only [execOp, hf.eval hx, hf.eval hy]; simp [go_sem, bne]; rfl)
theorem y_lss (hx : val env x = some (.int k i)) (hy : val env y = some (.int k j)) : Y P E n ds ⟨dst, .binOp .lss t x y t', ty, pos, af, gd⟩ env l (.bool (decide (i < j))) :=
  Y.of fun a w hf _ => by (simp only [execOp, hf.eval hx, hf.eval hy]; simp [go_sem])
theorem y_leq (hx : val env x = some (.int k i)) (hy : val env y = some (.int k j)) : Y P E n ds ⟨dst, .binOp .leq t x y t', ty, pos, af, gd⟩ env l (.bool (decide (i ≤ j))) :=
  Y.of fun a w hf _ => by (simp only [execOp, hf.eval hx, hf.eval hy]; simp [go_sem])
theorem y_gtr (hx : val env x = some (.int k i)) (hy : val env y = some (.int k j)) : Y P E n ds ⟨dst, .binOp .gtr t x y t', ty, pos, af, gd⟩ env l (.bool (decide (j < i))) :=
  Y.of fun a w hf _ => by (simp only [execOp, hf.eval hx, hf.eval hy]; simp [go_sem])
theorem y_geq (hx : val env x = some (.int k i)) (hy : val env y = some (.int k j)) : Y P E n ds ⟨dst, .binOp .geq t x y t', ty, pos, af, gd⟩ env l (.bool (decide (j ≤ i))) :=
  Y.of fun a w hf _ => by (simp only [execOp, hf.eval hx, hf.eval hy]; simp [go_sem])
theorem y_not {b : Bool} (hx : val env x = some (.bool b)) : Y P E n ds ⟨dst, .unOp .not t x, ty, pos, af, gd⟩ env l (.bool (!b)) :=
  Y.of fun a w hf _ => by simp [execOp, hf.eval hx, Op.unary]
theorem y_conv (hT : Tok P T) {s : TI} {d : TI} (hs : T.at t = some s) (hd : T.at t' = some d) (hk : d.u = .int k') (hx : val env x = some (.int k i)) (hr : k'.wrap i = m) :
    Y P E n ds ⟨dst, .convert t t' x, ty, pos, af, gd⟩ env l (.int k' m) :=
  Y.of fun a w hf _ => by
    simp only [execOp, hf.eval hx, convert]
    simp only [Sem.run_bind, hT.und w hs, hT.und w hd, Result.andThen_ok, hk]
    cases s.u <;> simp [Conv.intToInt, hr]
theorem y_ptr_eq_nil (hT : Tok P T) {d : TI} {e : TypeId} (hd : T.at t = some d) (hk : d.u = .pointer e) {p : Option Addr} (hx : val env x = some (.pointer p)) (hy : val env y = some (.pointer none)) :
    Y P E n ds ⟨dst, .binOp .eql t x y t', ty, pos, af, gd⟩ env l (.bool p.isNone) :=
  Y.of fun a w hf _ => by
    have hu := (hT t d hd).1
    rw [hk] at hu
    have hp : P.underlying t = some (.pointer (P.pointee t)) := by simp [Program.pointee, hu]
    simp only [execOp, hf.eval hx, hf.eval hy]
    have hr := run_eql_pointer_nil (P := P) w t p hp
    simp [eqGuard_at_pointer, hr]
theorem y_bool_ne (hT : Tok P T) {d : TI} (hd : T.at t = some d) (hk : d.u = .bool) {b c : Bool} (hx : val env x = some (.bool b)) (hy : val env y = some (.bool c)) :
    Y P E n ds ⟨dst, .binOp .neq t x y t', ty, pos, af, gd⟩ env l (.bool (b != c)) :=
  Y.of fun a w hf _ => by
    have hu := (hT t d hd).1
    rw [hk] at hu
    simp only [execOp, hf.eval hx, hf.eval hy]
    simp [go_sem, run_neq_bool, hu, bne]
theorem y_nilCheck {p : Addr} (hx : val env x = some (.pointer (some p))) : Y P E n ds ⟨dst, .nilCheck x, ty, pos, af, gd⟩ env l (.pointer (some p)) :=
  Y.of fun a w hf _ => by simp [execOp, hf.eval hx]
theorem y_makeFunc {fn : Fn} {fs cs : List Operand} {us vs : List Value} (h1 : vals env fs = some us) (h2 : vals env cs = some vs) :
    Y P E n ds ⟨dst, .makeFunc fn fs.toArray cs.toArray, ty, pos, af, gd⟩ env l (.func fn us.toArray vs.toArray) :=
  Y.of fun a w hf _ => by simp [execOp, Instr.makeFunc, hf.evals h1, hf.evals h2]
theorem y_fieldAddr (hT : Tok P T) {d f' : TI} {fs : Array Field} {f : Field} {fi b off : Nat} (hd : T.at t = some d) (hk : d.u = .struct fs) (hf : fs[fi]? = some f) (hft : T.at f.type = some f') (hz : Nat.beq f'.size 0 = false)
    (hx : val env x = some (.pointer (some ⟨b, off, none⟩))) : Y P E n ds ⟨dst, .fieldAddr t x fi, ty, pos, af, gd⟩ env l (.pointer (some ⟨b, off + f.offset, none⟩)) :=
  Y.of fun a w hfr _ => by
    have h1 := hT.und w hd
    rw [hk] at h1
    have h2 := hT.siz w hft
    have hz' : f'.size ≠ 0 := by intro e; rw [e] at hz; simp at hz
    simp [execOp, hfr.eval hx, Instr.fieldAt, h1, hf, Instr.sureAddr, fieldPlace, h2, hz', addr_add]
theorem y_indexAddr_slice (hT : Tok P T) {d e' : TI} {e : TypeId} {b off len cap : Nat} (hd : T.at t = some d) (hk : d.u = .slice e) (he : T.at e = some e')
    (hx : val env x = some (.slice (some ⟨b, off, none⟩) len cap)) (hy : val env y = some (.int k i)) (h0 : 0 ≤ i) (h1 : i < len) :
    Y P E n ds ⟨dst, .indexAddr t x y, ty, pos, af, gd⟩ env l (.pointer (some ⟨b, off + i.toNat * e'.size, none⟩)) :=
  Y.of fun a w hfr _ => by
    have g1 := hT.und w hd
    rw [hk] at g1
    have g2 := hT.siz w he
    simp [execOp, hfr.eval hx, hfr.eval hy, Instr.indexAt, asIntOf, g1, h0, h1, g2, addr_add]
theorem y_indexAddr_arr (hT : Tok P T) {d e' : TI} {e : TypeId} {b off len : Nat} (hd : T.at t = some d) (hk : d.u = .array len e) (he : T.at e = some e')
    (hx : val env x = some (.pointer (some ⟨b, off, none⟩))) (hy : val env y = some (.int k i)) (h0 : 0 ≤ i) (h1 : i < len) :
    Y P E n ds ⟨dst, .indexAddr t x y, ty, pos, af, gd⟩ env l (.pointer (some ⟨b, off + i.toNat * e'.size, none⟩)) :=
  Y.of fun a w hfr _ => by
    have g1 := hT.und w hd
    rw [hk] at g1
    have g2 := hT.siz w he
    simp [execOp, hfr.eval hx, hfr.eval hy, Instr.indexAt, asIntOf, g1, h0, h1, g2, addr_add, Instr.sureAddr]
theorem y_load1 (hT : Tok P T) {d : TI} {b off : Nat} (hd : T.at t = some d) (hk : isAggB d.u = false) (hx : val env x = some (.pointer (some ⟨b, off, none⟩))) (hr : Rd1 l b off v) :
    Y P E n ds ⟨dst, .load t x, ty, pos, af, gd⟩ env l v :=
  Y.of fun a w hfr hs => by
    have g1 := hT.agg w hd
    have g2 := hr E w hs
    simp [execOp, hfr.eval hx, Instr.loadAt, Instr.sureAddr, loadVar, g1, hk, g2]
theorem y_loadN (hT : Tok P T) {d : TI} {b off : Nat} {vs : List Value} (hd : T.at t = some d) (hk : isAggB d.u = true) (hx : val env x = some (.pointer (some ⟨b, off, none⟩))) (hr : RdN l b off vs) (hn : vs.length = d.size) :
    Y P E n ds ⟨dst, .load t x, ty, pos, af, gd⟩ env l (.agg vs.toArray) :=
  Y.of fun a w hfr hs => by
    have g1 := hT.agg w hd
    have g2 := hT.siz w hd
    have g3 := run_loadCells_list (P := P) (w := w) ⟨b, off, none⟩ vs (hr.cells hs)
    rw [hn] at g3
    simp [execOp, hfr.eval hx, Instr.loadAt, Instr.sureAddr, loadVar, g1, hk, g2, g3]
theorem y_extract {vs : Array Value} {ix : Nat} (hx : val env x = some (.tuple vs)) (hv : vs[ix]? = some v) : Y P E n ds ⟨dst, .extract x ix, ty, pos, af, gd⟩ env l v :=
  Y.of fun a w hfr _ => by simp [execOp, hfr.eval hx, Instr.extract, hv]
theorem y_len_slice (hT : Tok P T) {d : TI} {e : TypeId} {p : Option Addr} {len cap : Nat} (hd : T.at t = some d) (hk : d.u = .slice e) (hx : val env x = some (.slice p len cap)) :
    Y P E n ds ⟨dst, .call ⟨.builtin .len, #[x], #[t]⟩, ty, pos, af, gd⟩ env l (.int .i64 len) :=
  Y.of fun a w hfr _ => by
    have g1 := hT.und w hd
    rw [hk] at g1
    simp [execOp, resolve, invoke, builtin, hfr.eval hx, Builtin.len_, g1, goInt]
theorem y_len_string (hT : Tok P T) {d : TI} {s : ByteArray} (hd : T.at t = some d) (hk : d.u = .string) (hx : val env x = some (.string s)) :
    Y P E n ds ⟨dst, .call ⟨.builtin .len, #[x], #[t]⟩, ty, pos, af, gd⟩ env l (.int .i64 s.size) :=
  Y.of fun a w hfr _ => by
    have g1 := hT.und w hd
    rw [hk] at g1
    simp [execOp, resolve, invoke, builtin, hfr.eval hx, Builtin.len_, g1, goInt]
theorem y_min2 (hx : val env x = some (.int k i)) (hy : val env y = some (.int k j)) (hr : min i j = m) {ts : Array TypeId} :
    Y P E n ds ⟨dst, .call ⟨.builtin .min, #[x, y], ts⟩, ty, pos, af, gd⟩ env l (.int k m) :=
  Y.of fun a w hfr _ => by
    have : (if j < i then j else i) = m := by rw [← hr]; omega
    simp [execOp, resolve, invoke, builtin, hfr.eval hx, hfr.eval hy, Builtin.min_, Builtin.min2, List.foldlM, this]
/-- s[l:h] of a slice. -/
theorem y_slice (hT : Tok P T) {d e' : TI} {e : TypeId} {b off len cap lo hi : Nat} {p : Option Addr} (hd : T.at t = some d) (hk : d.u = .slice e) (he : T.at e = some e')
    {ol oh : Option Operand} (hx : val env x = some (.slice p len cap))
    (hol : (ol = none ∧ lo = 0) ∨ ∃ o kl il, ol = some o ∧ val env o = some (.int kl il) ∧ il = (lo : Int))
    (hoh : (oh = none ∧ hi = len) ∨ ∃ o kh ih, oh = some o ∧ val env o = some (.int kh ih) ∧ ih = (hi : Int))
    (h1 : lo ≤ hi) (h2 : hi ≤ cap) (hlc : len ≤ cap) (hp : p = some ⟨b, off, none⟩ ∨ cap = 0) :
    Y P E n ds ⟨dst, .slice t x ol oh none, ty, pos, af, gd⟩ env l (.slice (if cap = lo then p else some ⟨b, off + lo * e'.size, none⟩) (hi - lo) (cap - lo)) :=
  Y.of fun a w hfr _ => by
    have g1 := hT.und w hd
    rw [hk] at g1
    have g3 := hT.siz w he
    have hb : (Instr.sliceBounds true len cap (ol.map a.eval) (oh.map a.eval) none).run P w = .ok (lo, hi, cap) w := by
      unfold Instr.sliceBounds
      rcases hol with ⟨rfl, rfl⟩ | ⟨o, kl, il, rfl, ho, rfl⟩ <;> rcases hoh with ⟨rfl, rfl⟩ | ⟨o', kh, ih, rfl, ho', rfl⟩
      · simp
      · have q : (0:Int) ≤ (hi:Int) ∧ (hi:Int) ≤ (cap:Int) := by omega
        simp [Instr.sliceBound, hfr.eval ho', asIntOf, h2]
      · simp [Instr.sliceBound, hfr.eval ho, asIntOf, h1]
      · simp [Instr.sliceBound, hfr.eval ho, hfr.eval ho', asIntOf, h1, h2]
    have hmap : ∀ (q : Option Operand), Option.map a.eval q = q.map a.eval := fun _ => rfl
    rcases hp with rfl | rfl
    · by_cases hc : cap = lo
      · subst hc; simp [execOp, hfr.eval hx, Instr.sliceAt, Instr.slice, g1, hb, g3]
      · simp [execOp, hfr.eval hx, Instr.sliceAt, Instr.slice, g1, hb, g3, hc, addr_add]
    · have : lo = 0 := by omega
      subst this
      cases p <;> simp [execOp, hfr.eval hx, Instr.sliceAt, Instr.slice, g1, hb, g3]
end
end Go.SL
namespace Go.SL
open Go Go.RowKit

/-- A slice that owns its array: n elements, the cells xs. -/
def own (e size : Nat) (v : Value) (n : Nat) (xs : List Value) : HProp := fun h =>
  xs.length = n * size ∧ ((v = .slice none 0 0 ∧ n = 0 ∧ h = Hp.empty) ∨
    ∃ g cap cur, v = .slice (some ⟨g, 0, none⟩) n cap ∧ n ≤ cap ∧ cap ≤ maxLen ∧ cur.length = cap * size ∧ cur.take (n * size) = xs ∧ row g e cur h)

theorem Sat.own_nil {E w : World} {l : List HProp} {e size : Nat} (s : Sat E (stars l) w) : Sat E (stars (own e size (.slice none 0 0) 0 [] :: l)) w :=
  s.imp fun h s => ⟨Hp.empty, h, fun _ => .inl rfl, (un_empty_left h).symm, ⟨by simp, .inl ⟨rfl, rfl, rfl⟩⟩, s⟩
theorem Sat.own_row {E w : World} {l : List HProp} {e size g n cap : Nat} {cur xs : List Value} (s : Sat E (stars (row g e cur :: l)) w) (h1 : n ≤ cap) (h2 : cap ≤ maxLen) (h3 : cur.length = cap * size) (h4 : cur.take (n * size) = xs) (h5 : xs.length = n * size) :
    Sat E (stars (own e size (.slice (some ⟨g, 0, none⟩) n cap) n xs :: l)) w :=
  s.imp fun _ s => star_mono (fun _ a => ⟨h5, .inr ⟨g, cap, cur, rfl, h1, h2, h3, h4, a⟩⟩) (fun _ b => b) s
/-- An owned slice opened. -/
theorem Sat.own_open {E w : World} {l : List HProp} {e size n : Nat} {v : Value} {xs : List Value} (s : Sat E (stars (own e size v n xs :: l)) w) :
    xs.length = n * size ∧ ((v = .slice none 0 0 ∧ n = 0 ∧ xs = [] ∧ Sat E (stars l) w) ∨
      ∃ g cap cur, v = .slice (some ⟨g, 0, none⟩) n cap ∧ n ≤ cap ∧ cap ≤ maxLen ∧ cur.length = cap * size ∧ cur.take (n * size) = xs ∧ Sat E (stars (row g e cur :: l)) w) := by
  obtain ⟨os, tp, ou, h, hs, h1, h2, d, rfl, ⟨hl, a⟩, b⟩ := s
  refine ⟨hl, ?_⟩
  rcases a with ⟨rfl, rfl, rfl⟩ | ⟨g, cap, cur, rfl, c1, c2, c3, c4, a⟩
  · left
    refine ⟨rfl, rfl, List.eq_nil_of_length_eq_zero (by simpa using hl), os, tp, ou, h2, ?_, b⟩
    rw [un_empty_left] at hs; exact hs
  · right
    exact ⟨g, cap, cur, rfl, c1, c2, c3, c4, os, tp, ou, _, hs, h1, h2, d, rfl, a, b⟩
theorem Sat.row_of_own {E w : World} {l r : List HProp} {e size n : Nat} {v : Value} {xs : List Value} (s : Sat E (stars l) w) (p : Pick l (own e size v n xs) r) : ∃ a cap, v = .slice a n cap ∧ n ≤ cap := by
  obtain ⟨_, ⟨rfl, rfl, _⟩ | ⟨g, cap, cur, rfl, h, _⟩⟩ := (s.pick p).own_open
  · exact ⟨none, 0, rfl, Nat.le_refl _⟩
  · exact ⟨_, cap, rfl, h⟩
theorem RdN.own {l r : List HProp} {e size n b off cap : Nat} {xs : List Value} (p : Pick l (own e size (.slice (some ⟨b, off, none⟩) n cap) n xs) r) : RdN l b off xs := fun j v hj E w s => by
  obtain ⟨hl, ⟨h, _⟩ | ⟨g, cap', cur, he, h1, h2, h3, h4, s'⟩⟩ := (s.pick p).own_open
  · simp at h
  · simp only [Value.slice.injEq, Option.some.injEq, Addr.mk.injEq] at he
    obtain ⟨⟨rfl, rfl, _⟩, _, rfl⟩ := he
    rw [s'.cell]
    rw [← h4, List.getElem?_take] at hj
    split at hj
    · simpa using hj
    · simp at hj

theorem Sat.setRow {E w : World} {l : List HProp} {b : Nat} {e : TypeId} {cs : List Value} (s : Sat E (stars (row b e cs :: l)) w) (cs' : List Value) :
    Sat E (stars (row b e cs' :: l)) (w.setRow b cs'.toArray) :=
  s.turn rfl rfl rfl (setRow_heap w b _ _ _ _ s.block) (fun k hk => setRow_other w b k _ hk)

section
variable {P : Program} {E : World} {ρ : Option Nat} {n : Nat} {ds : List Deferred} {env : Fr} {l r : List HProp} {T : Tab} {Q : Exit → Act → World → Prop} {ops : Array Oper} {rest : List Oper} {N : Fr → List HProp → Prop}
variable {d : Tmp} {ty : TypeId} {pos : String} {af : Array Edge} {gd : Option (Nat × Bool)} {x y z : Operand} {v u : Value} {t t' : TypeId}

/-- One operation, whatever it does: in which slots and lists it may end. -/
def LS (P : Program) (E : World) (n : Nat) (ds : List Deferred) (o : Oper) (env : Fr) (l : List HProp) (N : Fr → List HProp → Prop) : Prop :=
  ∀ a w, Frm n ds env a → Sat E (stars l) w → o.wp P a w (fun a' w' => ∃ env' l', Frm n ds env' a' ∧ Sat E (stars l') w' ∧ N env' l') (fun _ _ _ => False)
theorem Oper.wp_mono' {o : Oper} {a : Act} {w : World} {N N' : Act → World → Prop} {Q Q' : Exit → Act → World → Prop} (h : ∀ a w, N a w → N' a w) (hQ : ∀ e a w, Q e a w → Q' e a w) (hw : o.wp P a w N Q) : o.wp P a w N' Q' := by
  unfold Oper.wp at *
  generalize (execOp a.eval o).run P w = q at *
  cases q with
  | ok x w' =>
    cases x <;> simp only [Oper.upon] at * <;> first | exact h _ _ hw | exact hw | skip
    · exact hw.mono fun e w'' he => by
        cases e with
        | returned v => exact h _ _ he
        | panicked c => exact hQ _ _ _ he
        | outgrown => obtain ⟨a₀, w₀, q⟩ := he; exact ⟨a₀, w₀, hQ _ _ _ q⟩
    · exact hw.mono fun v w'' he => h _ _ he
  | halt x w' => cases x <;> simp only [Oper.upon] at * <;> first | exact hQ _ _ _ hw | exact hw
theorem LS.of {o : Oper} {N : Fr → List HProp → Prop} (hn : Nat.blt d n = true) (hd : o.dst = some d)
    (h : ∀ a w, Frm n ds env a → Sat E (stars l) w → ∃ v w' l', (execOp a.eval o).run P w = .ok (.value v) w' ∧ Sat E (stars l') w' ∧ N ((d, v) :: env) l') :
    LS P E n ds o env l N := fun a w hf hs => by
  obtain ⟨v, w', l', h1, h3, h4⟩ := h a w hf hs
  unfold Oper.wp
  rw [h1]
  exact ⟨_, l', by rw [hd]; exact hf.put v hn, h3, h4⟩
theorem LS.of0 {o : Oper} {N : Fr → List HProp → Prop} (hd : o.dst = none)
    (h : ∀ a w, Frm n ds env a → Sat E (stars l) w → ∃ w' l', (execOp a.eval o).run P w = .ok .skip w' ∧ Sat E (stars l') w' ∧ N env l') :
    LS P E n ds o env l N := fun a w hf hs => by
  obtain ⟨w', l', h1, h3, h4⟩ := h a w hf hs
  unfold Oper.wp
  rw [h1]
  exact ⟨_, l', by rw [hd]; exact hf, h3, h4⟩
theorem JL.loud {o : Oper} (hg : o.guard = none) (h : LS P E n ds o env l (fun env' l' => JL P E ρ n ds ops Q rest env' l')) (hnd : nd o = true := by rfl) : JL P E ρ n ds ops Q (o :: rest) env l := fun a w hf hs => by
  refine wpListIn_plain hg fun K hK => op_in hnd ?_
  exact Oper.wp_mono' (fun a' w' ⟨e, m, h1, h2, h3⟩ => hK _ _ (h3 a' w' h1 h2)) (fun _ _ _ h => h.elim) (h a w hf hs)
theorem JL.gloud {o : Oper} {j t : Nat} {b : Bool} (hg : o.guard = some (j, b)) (hgd : (ops[j]?).bind (·.dst) = some t) (hgv : look env t = some (.bool b))
    (h : LS P E n ds o env l (fun env' l' => JL P E ρ n ds ops Q rest env' l')) (hnd : nd o = true := by rfl) : JL P E ρ n ds ops Q (o :: rest) env l := fun a w hf hs => by
  refine wpListIn_step fun K hK => ?_
  rw [if_pos (by simp [Region.wanted, hg, yielded_of hf hgd hgv])]
  refine op_in hnd ?_
  exact Oper.wp_mono' (fun a' w' ⟨e, m, h1, h2, h3⟩ => hK _ _ (h3 a' w' h1 h2)) (fun _ _ _ h => h.elim) (h a w hf hs)

theorem l_alloc (hT : Tok P T) {i : TI} {z' : Value} {cs : List Value} (hi : T.at t = some i) (hz : i.zero = some z') (hc : z'.cells = cs.toArray) (hn : Nat.blt d n = true)
    (h : ∀ b, N ((d, .pointer (some ⟨b, 0, none⟩)) :: env) (row b t cs :: l)) :
    LS P E n ds ⟨some d, .alloc t, ty, pos, af, gd⟩ env l N :=
  LS.of hn rfl fun a w _ hs => by
    refine ⟨_, w.alloc (.cells cs.toArray t), _, ?_, hs.alloc _, h w.heap.size⟩
    have h1 := hT.zer w hi hz
    simp [execOp, Instr.alloc, h1, newVar, newRow, hc]
theorem l_box {cs : List Value} (hx : val env x = some v) (hc : v.cells = cs.toArray) (hn : Nat.blt d n = true)
    (h : ∀ b, N ((d, .pointer (some ⟨b, 0, none⟩)) :: env) (row b t cs :: l)) :
    LS P E n ds ⟨some d, .box t x, ty, pos, af, gd⟩ env l N :=
  LS.of hn rfl fun a w hf hs => by
    refine ⟨_, w.alloc (.cells cs.toArray t), _, ?_, hs.alloc _, h w.heap.size⟩
    simp [execOp, hf.eval hx, Instr.box, newVar, newRow, hc]
/-- A store of one cell. -/
theorem l_store1 (hT : Tok P T) {i : TI} {b off : Nat} {e : TypeId} {cs : List Value} (hi : T.at t = some i) (hs1 : i.size = 1) (hx : val env x = some (.pointer (some ⟨b, off, none⟩))) (hy : val env y = some v) (hv : v.oneCell' = true)
    (hp : Pick l (row b e cs) r) (ho : off < cs.length)
    (h : N env (row b e (cs.set off v) :: r)) :
    LS P E n ds ⟨none, .store t x y, ty, pos, af, gd⟩ env l N :=
  LS.of0 rfl fun a w hf hs => by
    have s := hs.pick hp
    refine ⟨_, _, ?_, s.set off v, h⟩
    have h1 := hT.siz w hi
    have hvc : v.cells = #[v] := by cases v <;> simp_all [Value.cells, Value.oneCell']
    have hst := run_store P w ⟨b, off, none⟩ v .plain hv
    have hc := s.cell off
    rw [List.getElem?_eq_getElem ho] at hc
    simp [execOp, hf.eval hx, hf.eval hy, Instr.storeAt, Instr.sureAddr, storeVar, h1, hs1, hvc, storeCells, addr_add, hst, hc, s.free off]
/-- A store of many cells. -/
theorem l_storeN (hT : Tok P T) {i : TI} {b off : Nat} {e : TypeId} {cs vs : List Value} (hi : T.at t = some i) (hx : val env x = some (.pointer (some ⟨b, off, none⟩))) (hy : val env y = some (.agg vs.toArray)) (hvs : vs.length = i.size) (hv : ∀ v ∈ vs, v.oneCell' = true)
    (hp : Pick l (row b e cs) r) (ho : off + vs.length ≤ cs.length)
    (h : N env (row b e (cs.take off ++ vs ++ cs.drop (off + vs.length)) :: r)) :
    LS P E n ds ⟨none, .store t x y, ty, pos, af, gd⟩ env l N :=
  LS.of0 rfl fun a w hf hs => by
    have s := hs.pick hp
    refine ⟨_, _, ?_, s.setRow (cs.take off ++ vs ++ cs.drop (off + vs.length)), h⟩
    have h1 := hT.siz w hi
    have hst := run_storeCells_at P b off e vs 0 cs.toArray w s.block (by simpa using ho) hv
    simp only [Nat.add_zero] at hst
    simp [execOp, hf.eval hx, hf.eval hy, Instr.storeAt, Instr.sureAddr, storeVar, h1, hvs, Value.cells, hst]
/-- A store that fills a block of its own. -/
theorem l_storeAll (hT : Tok P T) {i : TI} {b : Nat} {e : TypeId} {cs vs : List Value} (hi : T.at t = some i) (hx : val env x = some (.pointer (some ⟨b, 0, none⟩))) (hy : val env y = some (.agg vs.toArray)) (hvs : vs.length = i.size) (hv : ∀ v ∈ vs, v.oneCell' = true)
    (hp : Pick l (row b e cs) r) (hc : cs.length = i.size)
    (h : N env (row b e vs :: r)) : LS P E n ds ⟨none, .store t x y, ty, pos, af, gd⟩ env l N :=
  l_storeN hT hi hx hy hvs hv hp (by omega) (by
    have e1 : cs.take 0 ++ vs ++ cs.drop (0 + vs.length) = vs := by simp; omega
    rw [e1]; exact h)
theorem l_makeSlice (hT : Tok P T) {i j : TI} {e : TypeId} {zc : Value} {kl kc : IntKind} {m c : Int} (hi : T.at t = some i) (hk : i.u = .slice e) (hj : T.at e = some j) (hz : j.zero = some zc)
    (hx : val env x = some (.int kl m)) (hy : val env y = some (.int kc c)) (h0 : 0 ≤ m) (hmc : m ≤ c) (hb : (j.bytes : Int) * c ≤ 281474976710656) (h63 : c ≤ 9223372036854775807) (hn : Nat.blt d n = true)
    (h : ∀ b, N ((d, .slice (some ⟨b, 0, none⟩) m.toNat c.toNat) :: env) (row b e (madeCells zc.cells (c.toNat * j.size)).toList :: l)) :
    LS P E n ds ⟨some d, .makeSlice t x y, ty, pos, af, gd⟩ env l N :=
  LS.of hn rfl fun a w hf hs => by
    obtain ⟨hu, _⟩ := hT t i hi
    rw [hk] at hu
    obtain ⟨_, q, hq, hqs, hqb, hqz⟩ := hT e j hj
    have hr := run_make (P := P) w t e q zc hu hq (by rw [hqz, hz]) kl kc m c h0 hmc (by rw [hqb]; exact hb) h63
    refine ⟨.slice (some ⟨w.heap.size, 0, none⟩) m.toNat c.toNat, w.alloc (.cells (madeCells zc.cells (c.toNat * j.size)) e), row w.heap.size e (madeCells zc.cells (c.toNat * j.size)).toList :: l, ?_, ?_, h w.heap.size⟩
    · simp only [execOp, hf.eval hx, hf.eval hy]
      simp [hr, hqs]
    · have := hs.alloc (.cells (madeCells zc.cells (c.toNat * j.size)) e)
      simpa [row] using this

theorem Sat.of_append {w : World} {e size m : Nat} {i : TypeInfo} {zv : Value} {nn : Nat} {xs news : List Value} {ad : Addr} {c : Nat} (s : Sat E (stars (own e size v nn xs :: r)) w)
    (ht : P.underlying t = some (.slice e)) (hi : P.info? e = some i) (hz : i.zero = some zv) (hsize : i.size = size) (hzs : zv.cells.size = size) (hsz : 0 < size)
    (hl : news.length = m * size) (hnews : ∀ j u, news[j]? = some u → w.cell? (ad.add j) = some u) (h1 : ∀ u ∈ news, u.oneCell' = true)
    (h63 : nn + m ≤ maxLen) (hbytes : (nn + m) * i.bytes ≤ 140737488355328) :
    ∃ v' w', (Builtin.append_ #[t, t] ty #[v, .slice (some ad) m c]).run P w = .ok v' w' ∧ Sat E (stars (own e size v' (nn + m) (xs ++ news) :: r)) w' := by
  subst hsize
  have hsmall : nn + m ≤ 9223372036854775807 := by simp only [maxLen] at h63; omega
  obtain ⟨hxl, ⟨rfl, rfl, rfl, s0⟩ | ⟨g, cap, cur, rfl, hnc, hcm, hcs, htake, s1⟩⟩ := s.own_open
  · by_cases hm : m = 0
    · subst hm
      have hn0 : news = [] := List.eq_nil_of_length_eq_zero (by simpa using hl)
      subst hn0
      refine ⟨.slice none 0 0, w, ?_, by simpa using s0.own_nil⟩
      simp [Builtin.append_, run_underlying ht, sizeOf, typeInfo, hi, Builtin.lenOf, Builtin.firstCells, loadCells, loadCellsFrom]
    · have hr := run_append_nil (P := P) w t ty e i zv ht hi hz ad m c news hl hnews (by omega) (by omega) (by have hb := hbytes; simp only [Nat.zero_add] at hb; omega)
      refine ⟨_, _, hr, ?_⟩
      have hge := grownCap_ge w m 0 e
      have hcm : grownCap w m 0 e ≤ maxLen := grownCap_le_maxLen w m 0 e (by omega)
      have s2 := s0.drew.alloc (.cells (news.toArray ++ Builtin.zeroCells zv.cells (grownCap w m 0 e - m)) e)
      have s3 : Sat E (stars (row w.heap.size e (news ++ (Builtin.zeroCells zv.cells (grownCap w m 0 e - m)).toList) :: r)) (w.drew.alloc (.cells (news.toArray ++ Builtin.zeroCells zv.cells (grownCap w m 0 e - m)) e)) := by
        refine s2.imp fun h q => star_mono (fun h a => ?_) (fun _ b => b) q
        unfold row
        have e3 : (news ++ (Builtin.zeroCells zv.cells (grownCap w m 0 e - m)).toList).toArray = news.toArray ++ Builtin.zeroCells zv.cells (grownCap w m 0 e - m) := by
          apply Array.ext'; simp
        rw [e3]; exact a
      have s4 := s3.own_row (n := m) (size := i.size) (cap := grownCap w m 0 e) (xs := news) hge hcm ?_ ?_ hl
      · simpa using s4
      · rw [List.length_append, hl, Array.length_toList, size_zeroCells, hzs, ← Nat.add_mul]; congr 1; omega
      · rw [← hl]; exact List.take_left
  · by_cases hroom : nn + m ≤ cap
    · have hfit : nn * i.size + news.length ≤ cur.toArray.size := by rw [hl, List.size_toArray, hcs, ← Nat.add_mul]; exact Nat.mul_le_mul_right _ hroom
      have hr := run_append_room (P := P) w t ty e i ht hi g nn cap cur.toArray s1.block ad m c news hl hnews h1 hroom hfit
      refine ⟨_, _, hr, ?_⟩
      have s2 := s1.setRow (cur.take (nn * i.size) ++ news ++ cur.drop (nn * i.size + news.length))
      refine s2.own_row hroom hcm ?_ ?_ ?_
      · simp only [List.size_toArray] at hfit
        simp only [List.length_append, List.length_take, List.length_drop]; omega
      · rw [htake, Nat.add_mul, ← hl, ← hxl, ← List.length_append]; exact List.take_left
      · rw [List.length_append, hxl, hl, Nat.add_mul]
    · have holds : ∀ j u, xs[j]? = some u → w.cell? ((⟨g, 0, none⟩ : Addr).add j) = some u := by
        intro j u hj
        rw [addr_add, Nat.zero_add, s1.cell]
        rw [← htake, List.getElem?_take] at hj
        split at hj
        · exact hj
        · simp at hj
      have hr := run_append_grow (P := P) w t ty e i zv ht hi hz ⟨g, 0, none⟩ nn cap xs hxl holds ad m c news hl hnews (by omega) (by omega) (growslice_fits (by omega) hbytes)
      refine ⟨_, _, hr, ?_⟩
      have hge := grownCap_ge w (nn + m) cap e
      have hcm : grownCap w (nn + m) cap e ≤ maxLen := grownCap_le_maxLen w (nn + m) cap e h63
      have s2 := s1.drop.drew.alloc (.cells (xs.toArray ++ news.toArray ++ Builtin.zeroCells zv.cells (grownCap w (nn + m) cap e - (nn + m))) e)
      have s3 : Sat E (stars (row w.heap.size e (xs ++ news ++ (Builtin.zeroCells zv.cells (grownCap w (nn + m) cap e - (nn + m))).toList) :: r)) (w.drew.alloc (.cells (xs.toArray ++ news.toArray ++ Builtin.zeroCells zv.cells (grownCap w (nn + m) cap e - (nn + m))) e)) := by
        refine s2.imp fun h q => star_mono (fun h a => ?_) (fun _ b => b) q
        unfold row
        have e3 : (xs ++ news ++ (Builtin.zeroCells zv.cells (grownCap w (nn + m) cap e - (nn + m))).toList).toArray = xs.toArray ++ news.toArray ++ Builtin.zeroCells zv.cells (grownCap w (nn + m) cap e - (nn + m)) := by
          apply Array.ext'; simp
        rw [e3]; exact a
      have hxn : (xs ++ news).length = (nn + m) * i.size := by rw [List.length_append, hxl, hl, Nat.add_mul]
      refine s3.own_row (n := nn + m) (size := i.size) (cap := grownCap w (nn + m) cap e) (xs := xs ++ news) hge hcm ?_ ?_ hxn
      · rw [List.length_append, hxn, Array.length_toList, size_zeroCells, hzs, ← Nat.add_mul]; congr 1; omega
      · rw [← hxn]; exact List.take_left

theorem l_append (hT : Tok P T) {i j : TI} {e : TypeId} {zc : Value} {nn m c xb xo : Nat} {xs news : List Value} (hi : T.at t = some i) (hk : i.u = .slice e) (hj : T.at e = some j) (hz : j.zero = some zc) (hzs : zc.cells.size = j.size) (hsz : Nat.blt 0 j.size = true)
    (hx : val env x = some v) (hy : val env y = some (.slice (some ⟨xb, xo, none⟩) m c)) (hp : Pick l (own e j.size v nn xs) r) (hr : RdN l xb xo news) (hl : news.length = m * j.size) (h1 : ∀ u ∈ news, u.oneCell' = true)
    (hb : (nn + m) * j.bytes ≤ 140737488355328) (h63 : nn + m ≤ 9223372036854775807) (hn : Nat.blt d n = true)
    (h : ∀ a cap, nn + m ≤ cap → N ((d, .slice a (nn + m) cap) :: env) (own e j.size (.slice a (nn + m) cap) (nn + m) (xs ++ news) :: r)) :
    LS P E n ds ⟨some d, .call ⟨.builtin .append, #[x, y], #[t, t]⟩, ty, pos, af, gd⟩ env l N :=
  LS.of hn rfl fun a w hf hs => by
    obtain ⟨hu, _⟩ := hT t i hi
    rw [hk] at hu
    obtain ⟨_, q, hq, hqs, hqb, hqz⟩ := hT e j hj
    obtain ⟨v', w', h2, h3⟩ := Sat.of_append (P := P) (ty := ty) (ad := ⟨xb, xo, none⟩) (c := c) (hs.pick hp) hu hq (by rw [hqz, hz]) hqs hzs (by simpa using hsz) hl (hr.cells hs) h1 (by unfold maxLen; omega) (by rw [hqb]; exact hb)
    obtain ⟨aa, cap, rfl, hcap⟩ := h3.row_of_own Pick.head
    refine ⟨_, w', _, ?_, h3, h aa cap hcap⟩
    simp [execOp, resolve, invoke, builtin, hf.eval hx, hf.eval hy, h2]
end
end Go.SL
namespace Go.SL
open Go Go.RowKit

section
variable {P : Program} {E : World} {ops : Array Oper} {md : Region.Mode} {lc : List HProp}

/-- The operation yields v whatever stands beside the list. -/
def Quiets (P : Program) (E : World) (ops : Array Oper) (lc : List HProp) (o : Oper) (v : Value) (a : Act) : Prop :=
  ∀ m : List HProp, YieldsIn P ops (Sat E (stars (m ++ lc))) o v a

/-- Operation i comes up: either it yields a value whatever stands beside the list, or it goes from one list to another. -/
def mOp (P : Program) (E : World) (ops : Array Oper) (lc : List HProp) (i : Nat) (K : Act → List HProp → Prop) (a : Act) (m : List HProp) : Prop :=
  ∃ o, ops[i]? = some o ∧
    ((∃ v, Quiets P E ops lc o v a ∧ K (a.put o.dst v) m) ∨
     (∀ r w, Sat E (stars (m ++ (r ++ lc))) w → Region.wanted o (yielded ops a.tmps) = true ∧ o.wp P a w (fun a' w' => ∃ m', Sat E (stars (m' ++ (r ++ lc))) w' ∧ K a' m') (fun _ _ _ => False)))

/-- 'tl': the operations of the tail, which come behind all others; 'C': what is asked of the list of those that came up, where the tail begins. -/
def wpM (P : Program) (E : World) (md : Region.Mode) (ops : Array Oper) (tl : Nat → Bool) (C : Array Bool → Bool) (lc : List HProp) (Q : Act → List HProp → Prop) : Nat → Array Bool → Act → List HProp → Prop
  | 0, listed, a, m => (∀ j ∈ Region.ready md ops listed, tl j = true) ∧ C listed = true ∧ Q a m
  | f + 1, listed, a, m => (Region.ready md ops listed = [] → False) ∧ ∀ i ∈ Region.ready md ops listed, mOp P E ops lc i (wpM P E md ops tl C lc Q f (listed.setIfInBounds i true)) a m

theorem mOp_mono {i : Nat} {K K' : Act → List HProp → Prop} {a : Act} {m : List HProp} (h : ∀ a m, K a m → K' a m) (hh : mOp P E ops lc i K a m) : mOp P E ops lc i K' a m := by
  obtain ⟨o, ho, ⟨v, hv, hk⟩ | hl⟩ := hh
  · exact ⟨o, ho, .inl ⟨v, hv, h _ _ hk⟩⟩
  · exact ⟨o, ho, .inr fun r w hs => ⟨(hl r w hs).1, Oper.wp_mono' (fun _ _ ⟨m', h1, h2⟩ => ⟨m', h1, h _ _ h2⟩) (fun _ _ _ h => h) (hl r w hs).2⟩⟩

theorem wpAny_of_wpM {ρ : Option Nat} {Q : Act → List HProp → Prop} {Q' : Exit → Act → World → Prop} (hnd : ∀ (j : Nat) (o : Oper), ops[j]? = some o → nd o = true) {tl : Nat → Bool} {C : Array Bool → Bool} {t : Nat} (hQ : ∀ listed a m w, (∀ j ∈ Region.ready md ops listed, tl j = true) → C listed = true → Q a m → Sat E (stars (m ++ lc)) w → wpAnyIn (Fw ρ) 0 P md ops Q' t listed a w) :
    ∀ (f : Nat) (listed : Array Bool) (a : Act) (m : List HProp) (w : World), wpM P E md ops tl C lc Q f listed a m → Sat E (stars (m ++ lc)) w → wpAnyIn (Fw ρ) 0 P md ops Q' (t + f) listed a w
  | 0, listed, a, m, w, h, hs => hQ listed a m w h.1 h.2.1 h.2.2 hs
  | f + 1, listed, a, m, w, h, hs => by
    refine ⟨fun h0 => (h.1 h0).elim, fun i hi => ?_⟩
    obtain ⟨o, ho, ⟨v, hv, hk⟩ | hl⟩ := h.2 i hi
    · unfold wpOpIn
      simp only [ho]
      rcases hv m with ⟨hw, hy⟩ | ⟨hw, rfl⟩
      · simp only [hw, if_true]
        refine op_in (hnd i o ho) (Oper.wp_of_quiet (C := Sat E (stars (m ++ lc))) hs (K := fun a' => a' = a.put o.dst v) (fun a' w' hw' e => ?_) ⟨v, hy, rfl⟩)
        subst e
        exact wpAny_of_wpM hnd hQ f _ _ m w' hk hw'
      · simp only [hw, Bool.false_eq_true, if_false]
        exact ⟨fun _ _ => trivial, wpAny_of_wpM hnd hQ f _ _ m w hk hs⟩
    · obtain ⟨hw, hl⟩ := hl [] w hs
      unfold wpOpIn
      simp only [ho, hw, if_true]
      exact op_in (hnd i o ho) (Oper.wp_mono' (fun a' w' ⟨m', h1, h2⟩ => wpAny_of_wpM hnd hQ f _ a' m' w' h2 h1) (fun _ _ _ h => h.elim) hl)

theorem wp_put {o : Oper} {a : Act} {d : Option Tmp} {v : Value} {w : World} {N : Act → World → Prop} (he : execOp (a.put d v).eval o = execOp a.eval o) (hc : ∀ (a : Act) u, (a.put d v).put o.dst u = (a.put o.dst u).put d v)
    (hdf : ∀ (a : Act) x, ({ a with defers := x } : Act).put d v = { a.put d v with defers := x })
    (h : o.wp P (a.put d v) w N (fun _ _ _ => False)) : o.wp P a w (fun a' w' => N (a'.put d v) w') (fun _ _ _ => False) := by
  unfold Oper.wp at *
  rw [he] at h
  generalize (execOp a.eval o).run P w = q at *
  cases q with
  | ok x w' =>
    cases x <;> simp only [Oper.upon] at * <;> first | exact h | skip
    · rw [← hc]; exact h
    · rw [← hc]; exact h
    · exact Calls.mono h fun e w'' he => by
        cases e with
        | returned u => show N _ _; rw [← hc]; exact he
        | panicked c => exact he
        | outgrown => exact he
    · rename_i x
      have e1 : (({ a with defers := x :: a.defers } : Act).put o.dst undef).put d v = ({ a.put d v with defers := x :: (a.put d v).defers } : Act).put o.dst undef := by
        rw [← hc, hdf]
        cases d <;> rfl
      rw [e1]; exact h
    · exact Rows.mono h fun u w'' he => by show N _ _; rw [← hc]; exact he
  | halt x w' => cases x <;> simp only [Oper.upon] at * <;> exact h

theorem Quiets.of_same {o : Oper} {v : Value} {a a' : Act} (hy : Quiets P E ops lc o v a) (he : execOp a'.eval o = execOp a.eval o)
    (hw : Region.wanted o (yielded ops a'.tmps) = Region.wanted o (yielded ops a.tmps)) : Quiets P E ops lc o v a' := fun m => (hy m).of_same he hw

/-- An operation apart from a quiet one may come up before it. -/
theorem mOp_put {j : Nat} {oi oj : Oper} {v : Value} (hj : ops[j]? = some oj) (hap : oi.apart ops oj = true)
    (hsi : ∀ cs b, oi.op ≠ .select cs b) (hsj : ∀ cs b, oj.op ≠ .select cs b) {K : Act → List HProp → Prop} {a : Act} {m : List HProp}
    (hy : Quiets P E ops lc oi v a) (h : mOp P E ops lc j K (a.put oi.dst v) m) :
    mOp P E ops lc j (fun a' m' => Quiets P E ops lc oi v a' ∧ K (a'.put oi.dst v) m') a m := by
  obtain ⟨h1, h2, h3⟩ := Oper.apart_spec hap
  have keep : ∀ (a : Act), Quiets P E ops lc oi v a → ∀ u, Quiets P E ops lc oi v (a.put oj.dst u) := fun a hy u =>
    hy.of_same (execOp_put oi hsi a oj.dst u h3) (wanted_put oi a oj.dst u h3)
  obtain ⟨o, ho, hh⟩ := h
  obtain rfl : o = oj := Option.some.inj (ho.symm.trans hj)
  refine ⟨o, ho, ?_⟩
  rcases hh with ⟨u, hu, hk⟩ | hl
  · refine .inl ⟨u, hu.of_same (execOp_put o hsj a oi.dst v h1).symm (wanted_put o a oi.dst v h1).symm, keep a hy u, ?_⟩
    rw [← Act.put_comm a v u h2]; exact hk
  · refine .inr fun r w hs => ?_
    obtain ⟨hw, hl⟩ := hl r w hs
    rw [wanted_put o a oi.dst v h1] at hw
    refine ⟨hw, ?_⟩
    have hx := wp_put (N := fun a' w' => ∃ m', Sat E (stars (m' ++ (r ++ lc))) w' ∧ K a' m') (execOp_put o hsj a oi.dst v h1) (fun a u => Act.put_comm a v u h2) (fun a x => by cases oi.dst <;> rfl) hl
    unfold Oper.wp at hx ⊢
    generalize (execOp a.eval o).run P w = q at *
    have keepd : ∀ (a : Act) x, Quiets P E ops lc oi v a → Quiets P E ops lc oi v ({ a with defers := x } : Act) := fun a x hq m => by
      have e : ({ a with defers := x } : Act).eval = a.eval := by funext z; cases z <;> rfl
      exact (hq m).of_same (by rw [e]) rfl
    cases q with
    | ok x w' =>
      cases x <;> simp only [Oper.upon] at * <;> first | exact hx | skip
      · obtain ⟨m', g1, g2⟩ := hx; exact ⟨m', g1, keep _ hy _, g2⟩
      · obtain ⟨m', g1, g2⟩ := hx; exact ⟨m', g1, keep _ hy _, g2⟩
      · exact Calls.mono hx fun e w'' he => by
          cases e with
          | returned u => obtain ⟨m', g1, g2⟩ := he; exact ⟨m', g1, keep _ hy _, g2⟩
          | panicked c => exact he
          | outgrown => exact he
      · obtain ⟨m', g1, g2⟩ := hx; exact ⟨m', g1, keep _ (keepd _ _ hy) _, g2⟩
      · exact Rows.mono hx fun u w'' he => by obtain ⟨m', g1, g2⟩ := he; exact ⟨m', g1, keep _ hy _, g2⟩
    | halt x w' => cases x <;> simp only [Oper.upon] at * <;> exact hx

theorem wpM_first {Q : Act → List HProp → Prop} {tl : Nat → Bool} {C : Array Bool → Bool} {i : Nat} {oi : Oper} {v : Value} (htl : ∀ j oj, ops[j]? = some oj → tl j = true → ∃ e ∈ oj.after, Region.binds md e = true ∧ e.on = i) (hi : ops[i]? = some oi) (hsel : ∀ (j : Nat) (o : Oper) cs b, ops[j]? = some o → o.op ≠ .select cs b) :
    ∀ (f : Nat) (listed : Array Bool) (a : Act) (m : List HProp),
      (∀ j oj, ops[j]? = some oj → j ≠ i → listed.getD j true = false → (∀ e ∈ oj.after, Region.binds md e = true → e.on ≠ i) → oi.apart ops oj = true) →
      i ∈ Region.ready md ops listed → Quiets P E ops lc oi v a →
      wpM P E md ops tl C lc Q f (listed.setIfInBounds i true) (a.put oi.dst v) m → wpM P E md ops tl C lc Q (f + 1) listed a m := by
  intro f
  induction f with
  | zero =>
    intro listed a m _ hr hy H
    refine ⟨fun h => (by rw [h] at hr; cases hr), fun j hj => ?_⟩
    by_cases hji : j = i
    · subst hji; exact ⟨oi, hi, .inl ⟨v, hy, H⟩⟩
    · obtain ⟨_, oj, hoj, hall⟩ := mem_ready.1 hj
      obtain ⟨e, he, hb, heq⟩ := htl j oj hoj (H.1 j (ready_mono hj hji))
      have h1 := hall e he hb
      rw [heq, getD_both (mem_ready.1 hr).1] at h1
      cases h1
  | succ f ih =>
    intro listed a m hfree hr hy H
    refine ⟨fun h => (by rw [h] at hr; cases hr), fun j hj => ?_⟩
    by_cases hji : j = i
    · subst hji; exact ⟨oi, hi, .inl ⟨v, hy, H⟩⟩
    · have h1 := H.2 j (ready_mono hj hji)
      obtain ⟨hjun, oj, hoj, hall⟩ := mem_ready.1 hj
      have hnot : ∀ e ∈ oj.after, Region.binds md e = true → e.on ≠ i := fun e he hb heq => by
        have h1 := hall e he hb
        rw [heq, getD_both (mem_ready.1 hr).1] at h1
        cases h1
      have h2 := mOp_put hoj (hfree j oj hoj hji hjun hnot) (fun cs b => hsel i oi cs b hi) (fun cs b => hsel j oj cs b hoj) hy h1
      have hfree' : ∀ k ok, ops[k]? = some ok → k ≠ i → (listed.setIfInBounds j true).getD k true = false →
          (∀ e ∈ ok.after, Region.binds md e = true → e.on ≠ i) → oi.apart ops ok = true := fun k ok hk hki hun hno => by
        refine hfree k ok hk hki ?_ hno
        by_cases hjk : j = k
        · subst hjk; exact hjun
        · rw [getD_set_ne true hjk] at hun; exact hun
      refine mOp_mono (fun a' m' h3 => ih (listed.setIfInBounds j true) a' m' hfree' (ready_mono hr (Ne.symm hji)) h3.1 ?_) h2
      rw [Array.setIfInBounds_comm _ _ hji]
      exact h3.2

/-- The plan's steps: quiet; loud: it may turn the world, and comes up alone (beside such that lay a new block); laying: it lays a new block and no more; early: it reads what a later step turns. -/
inductive Kd where
  | q | l | n | e

/-- Takes a laying step to the head, if all ahead of it are apart from it. -/
def front (ops : Array Oper) (i : Nat) : List (Nat × Kd) → Option (List (Nat × Kd))
  | [] => none
  | (k, x) :: r => if k = i then (match x with | .n => some r | _ => none) else
    match ops[i]?, ops[k]? with
    | some oi, some ok => if oi.apart ops ok then (front ops i r).map ((k, x) :: ·) else none
    | _, _ => none

def Kd.isE : Kd → Bool
  | .e => true
  | _ => false
def Kd.isR : Kd → Bool
  | .e => true
  | .q => true
  | _ => false
/-- Takes an early step to the head, if none ahead of it turns anything, and all are apart from it. -/
def frontE (ops : Array Oper) (i : Nat) : List (Nat × Kd) → Option (List (Nat × Kd))
  | [] => none
  | (k, x) :: r => if k = i then (if x.isE then some r else none) else
    match ops[i]?, ops[k]? with
    | some oi, some ok => if x.isR && (oi.apart ops ok && ok.apart ops oi) then (frontE ops i r).map ((k, x) :: ·) else none
    | _, _ => none

/-- All of the tail come behind this one. -/
def tailB (md : Region.Mode) (ops : Array Oper) (tl : Nat → Bool) (k : Nat) : Bool :=
  (List.range ops.size).all fun j => !(tl j) || (match ops[j]? with | some oj => oj.after.any fun e => Region.binds md e && e.on == k | none => true)
theorem tailB_spec {md : Region.Mode} {ops : Array Oper} {tl : Nat → Bool} {k : Nat} (h : tailB md ops tl k = true) : ∀ j oj, ops[j]? = some oj → tl j = true → ∃ e ∈ oj.after, Region.binds md e = true ∧ e.on = k := fun j oj hj ht => by
  have hlt : j < ops.size := (Array.getElem?_eq_some_iff.1 hj).1
  have h1 := List.all_eq_true.1 h j (List.mem_range.2 hlt)
  simp only [ht, Bool.not_true, Bool.false_or, hj, Array.any_eq_true'] at h1
  obtain ⟨e, he, hq⟩ := h1
  simp only [Bool.and_eq_true, beq_iff_eq] at hq
  exact ⟨e, he, hq.1, hq.2⟩
def planB (md : Region.Mode) (ops : Array Oper) (tl : Nat → Bool) (C : Array Bool → Bool) : Nat → List (Nat × Kd) → Array Bool → Bool
  | 0, [], listed => (Region.ready md ops listed).all tl && C listed
  | f + 1, (k, x) :: r, listed => match x with
    | .q => (Region.ready md ops listed).contains k && Region.free md ops listed k && tailB md ops tl k && planB md ops tl C f r (listed.setIfInBounds k true)
    | .e => !(Region.ready md ops listed).isEmpty && (Region.ready md ops listed).all fun i =>
      if i = k then planB md ops tl C f r (listed.setIfInBounds k true)
      else match frontE ops i ((k, .e) :: r) with
        | some r' => planB md ops tl C f r' (listed.setIfInBounds i true)
        | none => match front ops i ((k, .e) :: r) with
          | some r' => planB md ops tl C f r' (listed.setIfInBounds i true)
          | none => false
    | _ => !(Region.ready md ops listed).isEmpty && (Region.ready md ops listed).all fun i =>
      if i = k then planB md ops tl C f r (listed.setIfInBounds k true)
      else match front ops i ((k, x) :: r) with
        | some r' => planB md ops tl C f r' (listed.setIfInBounds i true)
        | none => false
  | _, _, _ => false

/-- The operation lays a new block and no more. -/
def Lays (P : Program) (o : Oper) (a : Act) (V : Nat → Value) (ob : Obj) : Prop := ∀ w : World, (execOp a.eval o).run P w = .ok (.value (V w.heap.size)) (w.alloc ob)

theorem Lays.unique {o : Oper} {a : Act} {V V' : Nat → Value} {ob ob' : Obj} (h : Lays P o a V ob) (h' : Lays P o a V' ob') : V = V' ∧ ob = ob' := by
  have key : ∀ n : Nat, V n = V' n ∧ ob = ob' := fun n => by
    have e1 := h { (default : World) with heap := Array.replicate n default }
    have e2 := h' { (default : World) with heap := Array.replicate n default }
    rw [e1] at e2
    simp only [Array.size_replicate, Result.ok.injEq, Next.value.injEq, World.alloc, World.mk.injEq, and_true] at e2
    exact ⟨e2.1, (Array.push_inj_right.1 e2.2)⟩
  exact ⟨funext fun n => (key n).1, (key 0).2⟩

/-- The operations gone through by the plan. -/
def wpPlan (P : Program) (E : World) (ops : Array Oper) (lc : List HProp) (Q : Act → List HProp → Prop) : List (Nat × Kd) → Act → List HProp → Prop
  | [], a, m => Q a m
  | (k, .l) :: r, a, m => ∃ o, ops[k]? = some o ∧ Region.wanted o (yielded ops a.tmps) = true ∧ ∀ fr w, Sat E (stars (m ++ (fr ++ lc))) w → o.wp P a w (fun a' w' => ∃ m', Sat E (stars (m' ++ (fr ++ lc))) w' ∧ wpPlan P E ops lc Q r a' m') (fun _ _ _ => False)
  | (k, .q) :: r, a, m => ∃ o v, ops[k]? = some o ∧ Quiets P E ops lc o v a ∧ wpPlan P E ops lc Q r (a.put o.dst v) m
  | (k, .n) :: r, a, m => ∃ o V ob, ops[k]? = some o ∧ Region.wanted o (yielded ops a.tmps) = true ∧ Lays P o a V ob ∧ ∀ b, wpPlan P E ops lc Q r (a.put o.dst (V b)) (blk b ob :: m)
  | (k, .e) :: r, a, m => ∃ o v, ops[k]? = some o ∧ (∀ fr, YieldsIn P ops (Sat E (stars (m ++ (fr ++ lc)))) o v a) ∧ wpPlan P E ops lc Q r (a.put o.dst v) m

/-- What an operation may leave: a frame with one slot turned, or with one more deferred call. -/
theorem wp_ends {o : Oper} {a : Act} {w : World} {N N' : Act → World → Prop} (h : o.wp P a w N (fun _ _ _ => False))
    (hN : ∀ u w', N (a.put o.dst u) w' → N' (a.put o.dst u) w') (hD : ∀ x w', N (({ a with defers := x } : Act).put o.dst undef) w' → N' (({ a with defers := x } : Act).put o.dst undef) w') : o.wp P a w N' (fun _ _ _ => False) := by
  unfold Oper.wp at *
  generalize (execOp a.eval o).run P w = q at *
  cases q with
  | ok x w' =>
    cases x <;> simp only [Oper.upon] at * <;> first | exact h | skip
    · exact hN _ _ h
    · exact hN _ _ h
    · exact Calls.mono h fun e w'' he => by
        cases e with
        | returned u => exact hN _ _ he
        | panicked c => exact he
        | outgrown => exact he
    · exact hD _ _ h
    · exact Rows.mono h fun u w'' he => hN _ _ he
  | halt x w' => cases x <;> simp only [Oper.upon] at * <;> exact h

theorem eval_defers (a : Act) (x : List Deferred) : ({ a with defers := x } : Act).eval = a.eval := by funext z; cases z <;> rfl

section
variable {i k : Nat} {oi ok : Oper} (hi : ops[i]? = some oi) (hap : oi.apart ops ok = true) (hsi : ∀ cs b, oi.op ≠ .select cs b) (hsk : ∀ cs b, ok.op ≠ .select cs b)
include hap hsi
theorem Lays.past {a : Act} {V : Nat → Value} {ob : Obj} (u : Value) : Lays P oi (a.put ok.dst u) V ob ↔ Lays P oi a V ob := by
  obtain ⟨_, _, h3⟩ := Oper.apart_spec hap
  unfold Lays
  rw [execOp_put oi hsi a ok.dst u h3]
omit hsi in
theorem wanted_past (a : Act) (u : Value) : Region.wanted oi (yielded ops (a.put ok.dst u).tmps) = Region.wanted oi (yielded ops a.tmps) := wanted_put oi a ok.dst u (Oper.apart_spec hap).2.2
end

/-- A laying step that comes later is known to lay by now, if the list can be met. -/
theorem plan_lays {Q : Act → List HProp → Prop} (hs : Region.noSelect ops = true) {i : Nat} {oi : Oper} (hi : ops[i]? = some oi) : ∀ (π π' : List (Nat × Kd)) (a : Act) (m fr : List HProp) (w : World), front ops i π = some π' →
    wpPlan P E ops lc Q π a m → Sat E (stars (m ++ (fr ++ lc))) w → Region.wanted oi (yielded ops a.tmps) = true ∧ ∃ V ob, Lays P oi a V ob
  | [], π', a, m, fr, w, hf, _, _ => by simp [front] at hf
  | (k, x) :: r, π', a, m, fr, w, hf, h, hsat => by
    by_cases hki : k = i
    · subst hki
      cases x with
      | n =>
        obtain ⟨o, V, ob, h1, h2, h3, h4⟩ := h
        obtain rfl : o = oi := Option.some.inj (h1.symm.trans hi)
        exact ⟨h2, V, ob, h3⟩
      | q => simp [front] at hf
      | l => simp [front] at hf
      | e => simp [front] at hf
    · have hk : ∃ ok, ops[k]? = some ok := by
        cases x with
        | n => obtain ⟨o, _, _, h1, _⟩ := h; exact ⟨o, h1⟩
        | q => obtain ⟨o, _, h1, _⟩ := h; exact ⟨o, h1⟩
        | e => obtain ⟨o, _, h1, _⟩ := h; exact ⟨o, h1⟩
        | l => obtain ⟨o, h1, _⟩ := h; exact ⟨o, h1⟩
      obtain ⟨ok, hok⟩ := hk
      simp only [front, hki, if_false, hi, hok] at hf
      split at hf
      case isFalse => cases hf
      rename_i hap
      obtain ⟨r', hr', _⟩ := Option.map_eq_some_iff.1 hf
      have hsi : ∀ cs b, oi.op ≠ .select cs b := fun cs b => Region.noSelect_spec hs i oi cs b hi
      have hsk : ∀ cs b, ok.op ≠ .select cs b := fun cs b => Region.noSelect_spec hs k ok cs b hok
      cases x with
      | q =>
        obtain ⟨o, v, h1, h2, h3⟩ := h
        obtain rfl : o = ok := Option.some.inj (h1.symm.trans hok)
        obtain ⟨g1, V, ob, g2⟩ := plan_lays hs hi r r' _ m fr w hr' h3 hsat
        exact ⟨by rw [← wanted_past hap a v]; exact g1, V, ob, (Lays.past hap hsi v).1 g2⟩
      | e =>
        obtain ⟨o, v, h1, h2, h3⟩ := h
        obtain rfl : o = ok := Option.some.inj (h1.symm.trans hok)
        obtain ⟨g1, V, ob, g2⟩ := plan_lays hs hi r r' _ m fr w hr' h3 hsat
        exact ⟨by rw [← wanted_past hap a v]; exact g1, V, ob, (Lays.past hap hsi v).1 g2⟩
      | n =>
        obtain ⟨o, V, ob, h1, h2, h3, h4⟩ := h
        obtain rfl : o = ok := Option.some.inj (h1.symm.trans hok)
        obtain ⟨g1, V', ob', g2⟩ := plan_lays hs hi r r' _ _ fr (w.alloc ob) hr' (h4 w.heap.size) (hsat.alloc ob)
        exact ⟨by rw [← wanted_past hap a _]; exact g1, V', ob', (Lays.past hap hsi _).1 g2⟩
      | l =>
        obtain ⟨o, h1, h2, h3⟩ := h
        obtain rfl : o = ok := Option.some.inj (h1.symm.trans hok)
        have hx := h3 fr w hsat
        obtain ⟨_, _, p3⟩ := Oper.apart_spec hap
        have hx' : o.wp P a w (fun a' w' => Region.wanted oi (yielded ops a.tmps) = true ∧ ∃ V ob, Lays P oi a V ob) (fun _ _ _ => False) := by
          refine wp_ends hx (fun u w' ⟨m', q1, q2⟩ => ?_) (fun z w' ⟨m', q1, q2⟩ => ?_)
          · obtain ⟨g1, V, ob, g2⟩ := plan_lays hs hi r r' _ m' fr w' hr' q2 q1
            exact ⟨by rw [← wanted_past hap a u]; exact g1, V, ob, (Lays.past hap hsi u).1 g2⟩
          · obtain ⟨g1, V, ob, g2⟩ := plan_lays hs hi r r' _ m' fr w' hr' q2 q1
            have g3 := (Lays.past (a := { a with defers := z }) hap hsi undef).1 g2
            have g4 := wanted_past hap ({ a with defers := z } : Act) undef
            rw [g4] at g1
            exact ⟨g1, V, ob, by unfold Lays at g3 ⊢; rw [eval_defers] at g3; exact g3⟩
        revert hx'
        unfold Oper.wp
        generalize (execOp a.eval o).run P w = qq
        intro hx'
        cases qq with
        | ok y w' =>
          cases y <;> simp only [Oper.upon] at hx' <;> first | exact hx' | skip
          · obtain ⟨e, w'', fr', hR, _⟩ := hx' []
            cases e with
            | returned u => exact hR
            | panicked c => exact hR.elim
            | outgrown => obtain ⟨_, _, hh⟩ := hR; exact hh.elim
          · obtain ⟨v, w'', hR, _⟩ := hx' default []
            exact hR
        | halt y w' => cases y <;> simp only [Oper.upon] at hx' <;> exact hx'.elim

theorem sat_turn {m fr lc : List HProp} {A : HProp} {w : World} : Sat E (stars (A :: m ++ (fr ++ lc))) w ↔ Sat E (stars (m ++ ((A :: fr) ++ lc))) w := by
  have p : Pick (m ++ ((A :: fr) ++ lc)) A (m ++ (fr ++ lc)) := by
    induction m with
    | nil => exact Pick.head
    | cons B m ih => exact Pick.tail ih
  exact ⟨fun s => s.unpick p, fun s => s.pick p⟩

theorem yields_imp {C C' : World → Prop} {o : Oper} {v : Value} {a : Act} (h : YieldsIn P ops C o v a) (hi : ∀ w, C' w ↔ C w) : YieldsIn P ops C' o v a := by
  obtain rfl : C' = C := funext fun w => propext (hi w)
  exact h
theorem plan_perm {Q : Act → List HProp → Prop} (hQ : ∀ a m m', (∀ h, stars m h ↔ stars m' h) → Q a m → Q a m') : ∀ (r : List (Nat × Kd)) (a : Act) (m m' : List HProp), (∀ h, stars m h ↔ stars m' h) →
    wpPlan P E ops lc Q r a m → wpPlan P E ops lc Q r a m'
  | [], a, m, m', e, h => hQ a m m' e h
  | (_, .q) :: r, _, m, m', e, ⟨o, v, h1, h2, h3⟩ => ⟨o, v, h1, h2, plan_perm hQ r _ m m' e h3⟩
  | (_, .n) :: r, _, m, m', e, ⟨o, V, ob, h1, h2, h3, h4⟩ => ⟨o, V, ob, h1, h2, h3, fun b => plan_perm hQ r _ (blk b ob :: m) (blk b ob :: m') (fun _ => ⟨fun s => star_mono (fun _ x => x) (fun h' => (e h').1) s, fun s => star_mono (fun _ x => x) (fun h' => (e h').2) s⟩) (h4 b)⟩
  | (_, .e) :: r, _, m, m', e, ⟨o, v, h1, h2, h3⟩ => ⟨o, v, h1, fun fr => yields_imp (h2 fr) (fun _ => ⟨fun hs => hs.imp fun h s => (stars_append m _ h).2 (star_mono (fun h' => (e h').2) (fun _ x => x) ((stars_append m' _ h).1 s)), fun hs => hs.imp fun h s => (stars_append m' _ h).2 (star_mono (fun h' => (e h').1) (fun _ x => x) ((stars_append m _ h).1 s))⟩), plan_perm hQ r _ m m' e h3⟩
  | (_, .l) :: _, _, m, m', e, ⟨o, h1, h2, h3⟩ => ⟨o, h1, h2, fun fr w hs => h3 fr w (hs.imp fun h s => (stars_append m _ h).2 (star_mono (fun h' => (e h').2) (fun _ x => x) ((stars_append m' _ h).1 s)))⟩

theorem wp_put_back {o : Oper} {a : Act} {d : Option Tmp} {v : Value} {w : World} {N : Act → World → Prop} (he : execOp (a.put d v).eval o = execOp a.eval o) (hc : ∀ (a : Act) u, (a.put o.dst u).put d v = (a.put d v).put o.dst u)
    (hdf : ∀ (a : Act) x, ({ a with defers := x } : Act).put d v = { a.put d v with defers := x })
    (h : o.wp P a w (fun a' w' => N (a'.put d v) w') (fun _ _ _ => False)) : o.wp P (a.put d v) w N (fun _ _ _ => False) := by
  unfold Oper.wp at *
  rw [he]
  generalize (execOp a.eval o).run P w = q at *
  cases q with
  | ok x w' =>
    cases x <;> simp only [Oper.upon] at * <;> first | exact h | skip
    · rw [← hc]; exact h
    · rw [← hc]; exact h
    · exact Calls.mono h fun e w'' he => by
        cases e with
        | returned u => show N _ _; rw [← hc]; exact he
        | panicked c => exact he
        | outgrown => exact he
    · rename_i x
      have e1 : (({ a with defers := x :: a.defers } : Act).put o.dst undef).put d v = ({ a.put d v with defers := x :: (a.put d v).defers } : Act).put o.dst undef := by
        rw [hc, hdf]
        cases d <;> rfl
      rw [← e1]; exact h
    · exact Rows.mono h fun u w'' he => by show N _ _; rw [← hc]; exact he
  | halt x w' => cases x <;> simp only [Oper.upon] at * <;> exact h

theorem plan_front {Q : Act → List HProp → Prop} (hQ : ∀ a m m', (∀ h, stars m h ↔ stars m' h) → Q a m → Q a m') (hs : Region.noSelect ops = true) {i : Nat} {oi : Oper} (hi : ops[i]? = some oi) (V : Nat → Value) (ob : Obj) : ∀ (π π' : List (Nat × Kd)) (a : Act) (m : List HProp), front ops i π = some π' →
    Lays P oi a V ob → wpPlan P E ops lc Q π a m → ∀ b, wpPlan P E ops lc Q π' (a.put oi.dst (V b)) (blk b ob :: m)
  | [], π', a, m, hf, _, _ => by simp [front] at hf
  | (k, x) :: r, π', a, m, hf, hl, h => by
    intro b
    by_cases hki : k = i
    · subst hki
      cases x with
      | n =>
        obtain ⟨o, V', ob', h1, h2, h3, h4⟩ := h
        obtain rfl : o = oi := Option.some.inj (h1.symm.trans hi)
        obtain ⟨rfl, rfl⟩ := hl.unique h3
        simp [front] at hf
        subst hf
        exact h4 b
      | q => simp [front] at hf
      | l => simp [front] at hf
      | e => simp [front] at hf
    · have hk : ∃ ok, ops[k]? = some ok := by
        cases x with
        | n => obtain ⟨o, _, _, h1, _⟩ := h; exact ⟨o, h1⟩
        | q => obtain ⟨o, _, h1, _⟩ := h; exact ⟨o, h1⟩
        | e => obtain ⟨o, _, h1, _⟩ := h; exact ⟨o, h1⟩
        | l => obtain ⟨o, h1, _⟩ := h; exact ⟨o, h1⟩
      obtain ⟨ok, hok⟩ := hk
      simp only [front, hki, if_false, hi, hok] at hf
      split at hf
      case isFalse => cases hf
      rename_i hap
      obtain ⟨r', hr', hπ⟩ := Option.map_eq_some_iff.1 hf
      subst hπ
      have hsi : ∀ cs b, oi.op ≠ .select cs b := fun cs b => Region.noSelect_spec hs i oi cs b hi
      have hsk : ∀ cs b, ok.op ≠ .select cs b := fun cs b => Region.noSelect_spec hs k ok cs b hok
      obtain ⟨p1, p2, p3⟩ := Oper.apart_spec hap
      have comm : ∀ (a : Act) (u v : Value), (a.put ok.dst u).put oi.dst v = (a.put oi.dst v).put ok.dst u := fun a u v => (Act.put_comm a v u p2).symm
      cases x with
      | q =>
        obtain ⟨o, v, h1, h2, h3⟩ := h
        obtain rfl : o = ok := Option.some.inj (h1.symm.trans hok)
        refine ⟨o, v, hok, h2.of_same (execOp_put o hsk a oi.dst (V b) p1) (wanted_put o a oi.dst (V b) p1), ?_⟩
        rw [← comm]
        exact plan_front hQ hs hi V ob r r' _ m hr' ((Lays.past hap hsi v).2 hl) h3 b
      | e =>
        obtain ⟨o, v, h1, h2, h3⟩ := h
        obtain rfl : o = ok := Option.some.inj (h1.symm.trans hok)
        refine ⟨o, v, hok, fun fr => (yields_imp (h2 (blk b ob :: fr)) (fun w => sat_turn)).of_same (execOp_put o hsk a oi.dst (V b) p1) (wanted_put o a oi.dst (V b) p1), ?_⟩
        rw [← comm]
        exact plan_front hQ hs hi V ob r r' _ m hr' ((Lays.past hap hsi v).2 hl) h3 b
      | n =>
        obtain ⟨o, V', ob', h1, h2, h3, h4⟩ := h
        obtain rfl : o = ok := Option.some.inj (h1.symm.trans hok)
        refine ⟨o, V', ob', hok, by rw [wanted_put o a oi.dst (V b) p1]; exact h2, by unfold Lays; rw [execOp_put o hsk a oi.dst (V b) p1]; exact h3, fun b' => ?_⟩
        rw [← comm]
        have := plan_front hQ hs hi V ob r r' _ _ hr' ((Lays.past hap hsi (V' b')).2 hl) (h4 b') b
        exact plan_perm hQ r' _ (blk b ob :: blk b' ob' :: m) (blk b' ob' :: blk b ob :: m) (fun h => ⟨fun s => star_swap s, fun s => star_swap s⟩) this
      | l =>
        obtain ⟨o, h1, h2, h3⟩ := h
        obtain rfl : o = ok := Option.some.inj (h1.symm.trans hok)
        refine ⟨o, hok, by rw [wanted_put o a oi.dst (V b) p1]; exact h2, fun fr w hsat => ?_⟩
        have hx := h3 (blk b ob :: fr) w (sat_turn.1 hsat)
        -- with the other slot filled the run is the same
        have hy : o.wp P a w (fun a' w' => ∃ m', Sat E (stars (m' ++ (fr ++ lc))) w' ∧ wpPlan P E ops lc Q r' (a'.put oi.dst (V b)) m') (fun _ _ _ => False) := by
          refine wp_ends hx (fun u w' ⟨m', q1, q2⟩ => ?_) (fun z w' ⟨m', q1, q2⟩ => ?_)
          · exact ⟨blk b ob :: m', sat_turn.2 q1, plan_front hQ hs hi V ob r r' _ m' hr' ((Lays.past hap hsi u).2 hl) q2 b⟩
          · refine ⟨blk b ob :: m', sat_turn.2 q1, plan_front hQ hs hi V ob r r' _ m' hr' ((Lays.past hap hsi undef).2 ?_) q2 b⟩
            unfold Lays; rw [eval_defers]; exact hl
        exact wp_put_back (execOp_put o hsk a oi.dst (V b) p1) (fun a u => comm a u _) (fun a z => by cases oi.dst <;> rfl) hy

theorem mOp_lays {Q : Act → List HProp → Prop} (hQ : ∀ a m m', (∀ h, stars m h ↔ stars m' h) → Q a m → Q a m') (hs : Region.noSelect ops = true) {i : Nat} {oi : Oper} (hi : ops[i]? = some oi) {π π' : List (Nat × Kd)} {a : Act} {m : List HProp} {K : Act → List HProp → Prop}
    (hf : front ops i π = some π') (h : wpPlan P E ops lc Q π a m) (hK : ∀ a' m', wpPlan P E ops lc Q π' a' m' → K a' m') : mOp P E ops lc i K a m := by
  refine ⟨oi, hi, ?_⟩
  refine .inr fun fr w hsat => ?_
  obtain ⟨hw, V, ob, hl⟩ := plan_lays hs hi π π' a m fr w hf h hsat
  refine ⟨hw, ?_⟩
  unfold Oper.wp
  rw [hl w]
  exact ⟨blk w.heap.size ob :: m, hsat.alloc ob, hK _ _ (plan_front hQ hs hi V ob π π' a m hf hl h _)⟩

theorem plan_frontE {Q : Act → List HProp → Prop} (hs : Region.noSelect ops = true) {i : Nat} : ∀ (π π' : List (Nat × Kd)) (a : Act) (m : List HProp), frontE ops i π = some π' → wpPlan P E ops lc Q π a m → wpPlan P E ops lc Q ((i, .e) :: π') a m
  | [], π', a, m, hf, _ => by simp [frontE] at hf
  | (k, x) :: r, π', a, m, hf, h => by
    by_cases hki : k = i
    · subst hki
      cases x with
      | e => simp [frontE, Kd.isE] at hf; subst hf; exact h
      | q => simp [frontE, Kd.isE] at hf
      | l => simp [frontE, Kd.isE] at hf
      | n => simp [frontE, Kd.isE] at hf
    · simp only [frontE, hki, if_false] at hf
      split at hf
      case h_2 => cases hf
      rename_i oi ok hoi hok
      split at hf
      case isFalse => cases hf
      rename_i hap
      simp only [Bool.and_eq_true] at hap
      obtain ⟨r', hr', hπ⟩ := Option.map_eq_some_iff.1 hf
      subst hπ
      have hsi : ∀ cs b, oi.op ≠ .select cs b := fun cs b => Region.noSelect_spec hs i oi cs b hoi
      have hsk : ∀ cs b, ok.op ≠ .select cs b := fun cs b => Region.noSelect_spec hs k ok cs b hok
      obtain ⟨p1, p2, p3⟩ := Oper.apart_spec hap.2.1
      cases x with
      | l => simp [Kd.isR] at hap
      | n => simp [Kd.isR] at hap
      | e =>
        obtain ⟨o, v, h1, h2, h3⟩ := h
        obtain rfl : o = ok := Option.some.inj (h1.symm.trans hok)
        obtain ⟨o', v', g1, g2, g3⟩ := plan_frontE hs r r' _ m hr' h3
        obtain rfl : o' = oi := Option.some.inj (g1.symm.trans hoi)
        refine ⟨o', v', hoi, fun fr => (g2 fr).of_same (execOp_put o' hsi a o.dst v p3).symm (wanted_put o' a o.dst v p3).symm, o, v, hok, fun fr => (h2 fr).of_same (execOp_put o hsk a o'.dst v' p1) (wanted_put o a o'.dst v' p1), ?_⟩
        rw [Act.put_comm a v' v p2]
        exact g3
      | q =>
        obtain ⟨o, v, h1, h2, h3⟩ := h
        obtain rfl : o = ok := Option.some.inj (h1.symm.trans hok)
        obtain ⟨o', v', g1, g2, g3⟩ := plan_frontE hs r r' _ m hr' h3
        obtain rfl : o' = oi := Option.some.inj (g1.symm.trans hoi)
        refine ⟨o', v', hoi, fun fr => (g2 fr).of_same (execOp_put o' hsi a o.dst v p3).symm (wanted_put o' a o.dst v p3).symm, o, v, hok, h2.of_same (execOp_put o hsk a o'.dst v' p1) (wanted_put o a o'.dst v' p1), ?_⟩
        rw [Act.put_comm a v' v p2]
        exact g3
/-- An early step comes up. -/
theorem mOp_early {Q : Act → List HProp → Prop} {i : Nat} {r : List (Nat × Kd)} {a : Act} {m : List HProp} {K : Act → List HProp → Prop} (h : wpPlan P E ops lc Q ((i, .e) :: r) a m) (hK : ∀ a' m', wpPlan P E ops lc Q r a' m' → K a' m') : mOp P E ops lc i K a m := by
  obtain ⟨o, v, h1, h2, h3⟩ := h
  by_cases hw : Region.wanted o (yielded ops a.tmps) = true
  · refine ⟨o, h1, .inr fun fr w hs => ⟨hw, ?_⟩⟩
    rcases h2 fr with ⟨_, hy⟩ | ⟨hn, _⟩
    · exact Oper.wp_of_quiet (C := Sat E (stars (m ++ (fr ++ lc)))) hs (K := fun a' => a' = a.put o.dst v) (fun a' w' hw' e => by subst e; exact ⟨m, hw', hK _ _ h3⟩) ⟨v, hy, rfl⟩
    · rw [hn] at hw; cases hw
  · refine ⟨o, h1, .inl ⟨v, fun m' => ?_, hK _ _ h3⟩⟩
    rcases h2 [] with ⟨hn, _⟩ | hn
    · exact absurd hn hw
    · exact .inr hn
theorem wpM_of_plan {Q : Act → List HProp → Prop} {tl : Nat → Bool} {C : Array Bool → Bool} (hQ : ∀ a m m', (∀ h, stars m h ↔ stars m' h) → Q a m → Q a m') (hs : Region.noSelect ops = true) : ∀ (f : Nat) (r : List (Nat × Kd)) (listed : Array Bool) (a : Act) (m : List HProp),
    planB md ops tl C f r listed = true → wpPlan P E ops lc Q r a m → wpM P E md ops tl C lc Q f listed a m
  | 0, [], listed, a, m, hB, h => by
    simp only [planB, Bool.and_eq_true, List.all_eq_true] at hB
    exact ⟨hB.1, hB.2, h⟩
  | 0, _ :: _, listed, a, m, hB, h => by simp [planB] at hB
  | f + 1, [], listed, a, m, hB, h => by simp [planB] at hB
  | f + 1, (k, .q) :: r, listed, a, m, hB, h => by
    simp only [planB, Bool.and_eq_true] at hB
    obtain ⟨o, v, ho, hq, hk⟩ := h
    exact wpM_first (tailB_spec hB.1.2) ho (Region.noSelect_spec hs) f listed a m (Region.free_spec ho hB.1.1.2) (by simpa using hB.1.1.1) hq (wpM_of_plan hQ hs f r _ _ m hB.2 hk)
  | f + 1, (k, .e) :: r, listed, a, m, hB, h => by
    simp only [planB, Bool.and_eq_true, Bool.not_eq_true', List.all_eq_true] at hB
    refine ⟨fun h0 => absurd hB.1 (by simp [h0]), fun i hi => ?_⟩
    have hBi := hB.2 i hi
    by_cases hik : i = k
    · subst hik
      simp only [if_true] at hBi
      exact mOp_early h (fun a' m' h' => wpM_of_plan hQ hs f r _ a' m' hBi h')
    · simp only [hik, if_false] at hBi
      split at hBi
      · rename_i r' hr'
        exact mOp_early (plan_frontE hs _ r' a m hr' h) (fun a' m' h' => wpM_of_plan hQ hs f r' _ a' m' hBi h')
      · split at hBi
        case h_2 => cases hBi
        rename_i r' hr'
        obtain ⟨_, oi, hoi, _⟩ := mem_ready.1 hi
        exact mOp_lays hQ hs hoi hr' h (fun a' m' h' => wpM_of_plan hQ hs f r' _ a' m' hBi h')
  | f + 1, (k, .l) :: r, listed, a, m, hB, h => by
    simp only [planB, Bool.and_eq_true, Bool.not_eq_true', List.all_eq_true] at hB
    refine ⟨fun h0 => absurd hB.1 (by simp [h0]), fun i hi => ?_⟩
    have hBi := hB.2 i hi
    by_cases hik : i = k
    · subst hik
      simp only [if_true] at hBi
      obtain ⟨o, ho, hw, hl⟩ := h
      exact ⟨o, ho, .inr fun fr w hs' => ⟨hw, Oper.wp_mono' (fun a' w' ⟨m', h1, h2⟩ => ⟨m', h1, wpM_of_plan hQ hs f r _ a' m' hBi h2⟩) (fun _ _ _ h => h) (hl fr w hs')⟩⟩
    · simp only [hik, if_false] at hBi
      split at hBi
      case h_2 => cases hBi
      rename_i r' hr'
      obtain ⟨_, oi, hoi, _⟩ := mem_ready.1 hi
      exact mOp_lays hQ hs hoi hr' h (fun a' m' h' => wpM_of_plan hQ hs f r' _ a' m' hBi h')
  | f + 1, (k, .n) :: r, listed, a, m, hB, h => by
    simp only [planB, Bool.and_eq_true, Bool.not_eq_true', List.all_eq_true] at hB
    refine ⟨fun h0 => absurd hB.1 (by simp [h0]), fun i hi => ?_⟩
    have hBi := hB.2 i hi
    obtain ⟨_, oi, hoi, _⟩ := mem_ready.1 hi
    by_cases hik : i = k
    · subst hik
      simp only [if_true] at hBi
      exact mOp_lays hQ hs hoi (π := (i, .n) :: r) (π' := r) (by simp [front]) h (fun a' m' h' => wpM_of_plan hQ hs f r _ a' m' hBi h')
    · simp only [hik, if_false] at hBi
      split at hBi
      case h_2 => cases hBi
      rename_i r' hr'
      exact mOp_lays hQ hs hoi hr' h (fun a' m' h' => wpM_of_plan hQ hs f r' _ a' m' hBi h')

theorem ready_nil {md : Region.Mode} {listed : Array Bool} (h : ∀ j ∈ Region.ready md ops listed, (fun _ : Nat => false) j = true) : Region.ready md ops listed = [] := by
  cases hr : Region.ready md ops listed with
  | nil => rfl
  | cons x r => exact absurd (h x (by rw [hr]; simp)) (by simp)
theorem plan_any {ρ : Option Nat} {Q : Exit → Act → World → Prop} {tl : Nat → Bool} {C : Array Bool → Bool} {t f : Nat} {a : Act} {w : World} {m : List HProp} {listed : Array Bool} (π : List (Nat × Kd))
    (hs0 : Region.noSelect ops = true) (hn : ops.toList.all nd = true) (hB : planB .any ops tl C f π listed = true) (hs : Sat E (stars (m ++ lc)) w)
    (hQ : ∀ (Q1 : Act → World → Prop) listed a m w, (∀ j ∈ Region.ready .any ops listed, tl j = true) → C listed = true → (∀ w, Sat E (stars (m ++ lc)) w → Q1 a w) → Sat E (stars (m ++ lc)) w → (∀ a w, Q1 a w → Q .normal a w) → wpAnyIn (Fw ρ) 0 P .any ops Q t listed a w)
    (h : wpPlan P E ops lc (fun a m => ∀ w, Sat E (stars (m ++ lc)) w → Q .normal a w) π a m) : wpAnyIn (Fw ρ) 0 P .any ops Q (t + f) listed a w := by
  have hnd : ∀ (j : Nat) (o : Oper), ops[j]? = some o → nd o = true := fun j o ho => List.all_eq_true.1 hn o (Array.mem_toList_iff.2 (Array.mem_of_getElem? ho))
  have h1 := wpM_of_plan (md := .any) (fun a m m' e hq w hs => hq w (hs.imp fun h s => (stars_append m _ h).2 (star_mono (fun h' => (e h').2) (fun _ x => x) ((stars_append m' _ h).1 s)))) hs0 _ π _ a m hB h
  exact wpAny_of_wpM hnd (fun listed a m w g1 g2 hq hs => hQ (fun a w => Q .normal a w) listed a m w g1 g2 hq hs (fun _ _ h => h)) _ _ a m _ h1 hs
theorem wp_region_plan {ρ : Option Nat} {id : Nat} {Q : Exit → Act → World → Prop} {a : Act} {w : World} {m : List HProp} (π : List (Nat × Kd)) (hm : P.follows .mixedOrders = true)
    (hB : (Region.noSelect ops && ops.toList.all nd && planB .any ops (fun _ => false) (fun _ => true) ops.size π (Array.replicate ops.size false)) = true) (hs : Sat E (stars (m ++ lc)) w)
    (h : wpPlan P E ops lc (fun a m => ∀ w, Sat E (stars (m ++ lc)) w → Q .normal a w) π a m) : (Code.region id ops true).wpIn (Fw ρ) 0 P Q a w := by
  simp only [Bool.and_eq_true] at hB
  refine wpIn_region_any hm ?_
  have := plan_any (ρ := ρ) (t := 0) π hB.1.1 hB.1.2 hB.2 (hs.drawn (w.drawn + 1)) (fun Q1 listed a m w g1 _ hq hs hi => ⟨ready_nil g1, hi _ _ (hq w hs)⟩) h
  rwa [Nat.zero_add] at this
end

/-! ### The plan in frames and lists -/
section
variable (P : Program) (E : World) (n : Nat) (ds : List Deferred)
def JM (ops : Array Oper) (lc : List HProp) (Q : Exit → Act → World → Prop) (π : List (Nat × Kd)) (env : Fr) (m : List HProp) : Prop :=
  ∀ a, Frm n ds env a → wpPlan P E ops lc (fun a m => ∀ w, Sat E (stars (m ++ lc)) w → Q .normal a w) π a m
end
theorem Pick.app {lc r : List HProp} {A : HProp} (m : List HProp) (p : Pick lc A r) : Pick (m ++ lc) A (m ++ r) := by
  induction m with
  | nil => exact p
  | cons B m ih => exact Pick.tail ih
section
variable {P : Program} {E : World} {ρ : Option Nat} {n : Nat} {ds : List Deferred} {Q : Exit → Act → World → Prop} {env : Fr} {l lc m : List HProp} {ops : Array Oper} {π : List (Nat × Kd)} {o : Oper} {k d : Nat} {v : Value}
theorem J.draw {id : Nat} {ops : List Oper} (m lc : List HProp) (π : List (Nat × Kd)) (hm : P.follows .mixedOrders = true)
    (hB : (Region.noSelect ops.toArray && ops.all nd && planB .any ops.toArray (fun _ => false) (fun _ => true) ops.toArray.size π (Array.replicate ops.toArray.size false)) = true) (hsp : Split l m lc)
    (h : JM P E n ds ops.toArray lc Q π env m) : J P E ρ n ds (.region id ops.toArray true) Q env l := fun a w hf hs => wp_region_plan π hm (by simpa using hB) (hs.divide hsp) (h a hf)
theorem JM.nil (h : JE E n ds Q .normal env (m ++ lc)) : JM P E n ds ops lc Q [] env m := fun a hf w hs => h a w hf hs
theorem JM.quiet (ho : ops[k]? = some o) (hg : o.guard = none) (hd : o.dst = some d) (hn : Nat.blt d n = true) (hy : ∀ m, Y P E n ds o env (m ++ lc) v) (h : JM P E n ds ops lc Q π ((d, v) :: env) m) :
    JM P E n ds ops lc Q ((k, .q) :: π) env m := fun a hf =>
  ⟨o, v, ho, fun m' => .inl ⟨by simp [Region.wanted, hg], fun w hw => hy m' a w hf hw⟩, h _ (by rw [hd]; exact hf.put v hn)⟩
theorem JM.loud (ho : ops[k]? = some o) (hg : o.guard = none) (h : ∀ fr, LS P E n ds o env (m ++ (fr ++ lc)) (fun env' l' => ∃ m', Split l' m' (fr ++ lc) ∧ JM P E n ds ops lc Q π env' m')) :
    JM P E n ds ops lc Q ((k, .l) :: π) env m := fun a hf =>
  ⟨o, ho, by simp [Region.wanted, hg], fun fr w hs => Oper.wp_mono' (fun a' w' ⟨e, l', h1, h2, m', h3, h4⟩ => ⟨m', h2.divide h3, h4 a' h1⟩) (fun _ _ _ h => h) (h fr a w hf hs)⟩
theorem JM.early (ho : ops[k]? = some o) (hg : o.guard = none) (hd : o.dst = some d) (hn : Nat.blt d n = true) (hy : ∀ fr, Y P E n ds o env (m ++ (fr ++ lc)) v) (h : JM P E n ds ops lc Q π ((d, v) :: env) m) :
    JM P E n ds ops lc Q ((k, .e) :: π) env m := fun a hf =>
  ⟨o, v, ho, fun fr => .inl ⟨by simp [Region.wanted, hg], fun w hw => hy fr a w hf hw⟩, h _ (by rw [hd]; exact hf.put v hn)⟩
theorem JM.lay {V : Nat → Value} {ob : Obj} (ho : ops[k]? = some o) (hg : o.guard = none) (hd : o.dst = some d) (hn : Nat.blt d n = true) (hl : ∀ a, Frm n ds env a → Lays P o a V ob) (h : ∀ b, JM P E n ds ops lc Q π ((d, V b) :: env) (blk b ob :: m)) :
    JM P E n ds ops lc Q ((k, .n) :: π) env m := fun a hf =>
  ⟨o, V, ob, ho, by simp [Region.wanted, hg], hl a hf, fun b => h b _ (by rw [hd]; exact hf.put _ hn)⟩
end
end Go.SL
namespace Go.SL
open Go Go.RowKit

/-- A call of f enters its body. -/
def Ent (P : Program) (f : FuncId) : Prop := ∀ args w, (callFunc f args).run P w = .ok (.enter f args) w
theorem Ent.mk {P : Program} {f : FuncId} {fn : Func} (h : P.funcs[f]? = some fn) (hn : (fn.name == "runtime.NumGoroutine") = false) (hb : fn.body.isNone = false) : Ent P f := fun args w => by
  simp only [callFunc, Sem.run_bind, run_program, Result.andThen_ok, h, hn, hb, Bool.false_eq_true, if_false, Sem.run_pure]

section
variable (P : Program) (E : World)
/-- A call of f, from every world that the list tells: it returns, and R says of its value and of what the list is then. -/
def Fc (f : FuncId) (args : Array Value) (l : List HProp) (R : Value → List HProp → Prop) : Prop :=
  ∀ w, Sat E (stars l) w → Calls P f args w fun e w' => ∃ v l', e = .returned v ∧ Sat E (stars l') w' ∧ R v l'
end
section
variable {P : Program} {E : World} {ρ : Option Nat} {n : Nat} {ds : List Deferred} {env : Fr} {l l' : List HProp} {T : Tab} {N : Fr → List HProp → Prop} {f : FuncId} {args : Array Value} {R R' : Value → List HProp → Prop}
variable {d : Tmp} {dst : Option Tmp} {ty : TypeId} {pos : String} {af : Array Edge} {gd : Option (Nat × Bool)} {x y z : Operand} {v u : Value} {t t' : TypeId}

theorem Fc.mono (h : Fc P E f args l R) (hr : ∀ v l, R v l → R' v l) : Fc P E f args l R' := fun w hs => (h w hs).mono fun _ _ ⟨v, l', h1, h2, h3⟩ => ⟨v, l', h1, h2, hr _ _ h3⟩
theorem Fc.imp (h : Fc P E f args l' R) (hi : ∀ w, Sat E (stars l) w → Sat E (stars l') w) : Fc P E f args l R := fun w hs => h w (hi w hs)
theorem Fc.split {p r : List HProp} (h : Fc P E f args (p ++ r) R) (hs : Split l p r) : Fc P E f args l R := h.imp fun _ s => s.divide hs

theorem l_call (he : Ent P f) {fx : Operand} {xs : List Operand} {us : List Value} {fs cs : Array Value} {ts : Array TypeId} (hf : val env fx = some (.func (.func f) fs cs)) (hx : vals env xs = some us)
    (hn : Nat.blt d n = true) (hc : Fc P E f (fs ++ us.toArray ++ cs) l R) (h : ∀ v l', R v l' → N ((d, v) :: env) l') :
    LS P E n ds ⟨some d, .call ⟨.value fx, xs.toArray, ts⟩, ty, pos, af, gd⟩ env l N := fun a w hfr hs => by
  have e1 : (execOp a.eval ⟨some d, .call ⟨.value fx, xs.toArray, ts⟩, ty, pos, af, gd⟩).run P w = .ok (.enter f (fs ++ us.toArray ++ cs)) w := by
    have e2 := he (fs ++ us.toArray ++ cs) w
    have e3 : Array.map a.eval xs.toArray = us.toArray := by rw [← hfr.evals hx]; simp
    simp only [execOp, resolve, e3, hfr.eval hf, Deferred.ofValue, Sem.run_bind, Sem.run_pure, Result.andThen_ok, invoke, e2]
  unfold Oper.wp
  rw [e1, Oper.upon_enter]
  refine (hc w hs).mono ?_
  rintro e w' ⟨v, l', rfl, h2, h3⟩
  exact ⟨_, l', hfr.put v hn, h2, h v l' h3⟩
def args0 : Nat → List Value → Fr
  | _, [] => []
  | k, v :: r => (k, v) :: args0 (k + 1) r
theorem look_args0 : ∀ (vs : List Value) (k t : Nat) (v : Value), look (args0 k vs) t = some v → k ≤ t ∧ vs[t - k]? = some v
  | [], k, t, v, h => by simp [args0, look] at h
  | u :: r, k, t, v, h => by
    by_cases hk : k = t
    · subst hk
      rw [args0, look_cons_eq] at h
      cases h
      simp
    · rw [args0, look_cons_ne hk] at h
      obtain ⟨h1, h2⟩ := look_args0 r (k + 1) t v h
      refine ⟨by omega, ?_⟩
      rw [show t - k = (t - (k + 1)) + 1 by omega]
      simpa using h2
theorem wrap_i64 {x : Int} (h1 : -9223372036854775808 ≤ x) (h2 : x ≤ 9223372036854775807) : IntKind.i64.wrap x = x := by rw [IntKind.wrap_i64]; omega
/-- What a function's body has to end in. -/
def Ret (E : World) (R : Value → List HProp → Prop) : Ending → World → Prop := fun e w' => ∃ v l', e = .returned v ∧ Sat E (stars l') w' ∧ R v l'
theorem Fc.of_body {fn : Func} {c : Code} {vs : List Value} (hf : P.funcs[f]? = some fn) (hb : fn.body = some c) (hn : fn.ntmps = n) (hle : Nat.ble vs.length n = true)
    (h : J P E none n [] c (bodyPost P fn (Ret E R)) (args0 0 vs) l) : Fc P E f vs.toArray l R := fun w hs => by
  refine calls_of_wp hf hb ((wpIn_wide (n := 0)).1 (h _ w ?_ hs))
  have hle' := Nat.le_of_ble_eq_true hle
  refine ⟨by simp [hn]; omega, rfl, fun t v e => ?_⟩
  obtain ⟨_, h2⟩ := look_args0 vs 0 t v e
  have hlt : t < vs.length := by
    rcases Nat.lt_or_ge t vs.length with h | h
    · exact h
    · simp [List.getElem?_eq_none h] at h2
  simp only [Nat.sub_zero] at h2
  rw [List.getElem?_eq_getElem hlt] at h2
  rw [Array.getElem?_append]
  simp [hlt, Option.some.inj h2]

/-- A result. -/
def resOne (tmps : Array Value) : ResultVar → Sem Value
  | .tmp t => pure (tmps.getD t undef)
  | .cell a t => do loadVar t (← asAddr (tmps.getD a undef))
def RV (P : Program) (E : World) (n : Nat) (ds : List Deferred) (env : Fr) (l : List HProp) (r : ResultVar) (v : Value) : Prop :=
  ∀ a w, Frm n ds env a → Sat E (stars l) w → (resOne a.tmps r).run P w = .ok v w
theorem RV.tmp {t : Tmp} (h : look env t = some v) : RV P E n ds env l (.tmp t) v := fun a w hf _ => by
  have := hf.slot t v h
  simp [resOne, Array.getD_eq_getD_getElem?, this]
theorem RV.cell1 (hT : Tok P T) {p : Tmp} {i : TI} {b off : Nat} (h : look env p = some (.pointer (some ⟨b, off, none⟩))) (hi : T.at t = some i) (ha : isAggB i.u = false) (hr : Rd1 l b off v) : RV P E n ds env l (.cell p t) v := fun a w hf hs => by
  have h1 := hf.slot p _ h
  have h2 := hT.agg w hi
  have h3 := hr E w hs
  simp [resOne, Array.getD_eq_getD_getElem?, h1, asAddr, loadVar, h2, ha, h3]
theorem RV.cellN (hT : Tok P T) {p : Tmp} {i : TI} {b off : Nat} {vs : List Value} (h : look env p = some (.pointer (some ⟨b, off, none⟩))) (hi : T.at t = some i) (ha : isAggB i.u = true) (hr : RdN l b off vs) (hn : vs.length = i.size) : RV P E n ds env l (.cell p t) (.agg vs.toArray) := fun a w hf hs => by
  have h1 := hf.slot p _ h
  have h2 := hT.agg w hi
  have h4 := hT.siz w hi
  have h3 := run_loadCells_list (P := P) (w := w) ⟨b, off, none⟩ vs (hr.cells hs)
  rw [hn] at h3
  simp [resOne, Array.getD_eq_getD_getElem?, h1, asAddr, loadVar, h2, ha, h4, h3]
theorem results_eq (fn : Func) (tmps : Array Value) : results fn tmps = (do
    let vs ← fn.results.mapM (resOne tmps)
    pure (if h : vs.size = 1 then vs[0] else .tuple vs)) := by
  unfold results
  congr 2

section
variable {fn : Func} {e : Exit} {r1 r2 r3 r4 : ResultVar} {v1 v2 v3 v4 : Value}
theorem JE.body {R : Ending → World → Prop} (he : e = .ret ∨ e = .normal) (hd : ds = []) (hr : ∀ a w, Frm n ds env a → Sat E (stars l) w → (results fn a.tmps).run P w = .ok v w) (h : ∀ w, Sat E (stars l) w → R (.returned v) w) : JE E n ds (bodyPost P fn R) e env l := fun a w hf hs => by
  have : a.defers = [] ∧ ∃ v, (results fn a.tmps).run P w = .ok v w ∧ R (.returned v) w := ⟨by rw [hf.defers, hd], v, hr a w hf hs, h w hs⟩
  rcases he with rfl | rfl <;> exact this
theorem JE.ret0 (he : e = .ret ∨ e = .normal) (hd : ds = []) (hres : fn.results = #[]) (h : R (.tuple #[]) l) : JE E n ds (bodyPost P fn (Ret E R)) e env l :=
  JE.body (v := .tuple #[]) he hd (fun a w hf hs => by simp [results_eq, hres]) fun w hs => ⟨_, l, rfl, hs, h⟩
theorem JE.ret1 (he : e = .ret ∨ e = .normal) (hd : ds = []) (hres : fn.results = #[r1]) (h1 : RV P E n ds env l r1 v1) (h : R v1 l) : JE E n ds (bodyPost P fn (Ret E R)) e env l :=
  JE.body (v := v1) he hd (fun a w hf hs => by
    have e1 := h1 a w hf hs
    simp [results_eq, hres, Array.mapM_eq_mapM_toList, e1]) fun w hs => ⟨_, l, rfl, hs, h⟩
theorem JE.ret2 (he : e = .ret ∨ e = .normal) (hd : ds = []) (hres : fn.results = #[r1, r2]) (h1 : RV P E n ds env l r1 v1) (h2 : RV P E n ds env l r2 v2) (h : R (.tuple #[v1, v2]) l) : JE E n ds (bodyPost P fn (Ret E R)) e env l :=
  JE.body (v := .tuple #[v1, v2]) he hd (fun a w hf hs => by
    have e1 := h1 a w hf hs
    have e2 := h2 a w hf hs
    simp [results_eq, hres, Array.mapM_eq_mapM_toList, e1, e2]) fun w hs => ⟨_, l, rfl, hs, h⟩
theorem JE.ret3 (he : e = .ret ∨ e = .normal) (hd : ds = []) (hres : fn.results = #[r1, r2, r3]) (h1 : RV P E n ds env l r1 v1) (h2 : RV P E n ds env l r2 v2) (h3 : RV P E n ds env l r3 v3) (h : R (.tuple #[v1, v2, v3]) l) : JE E n ds (bodyPost P fn (Ret E R)) e env l :=
  JE.body (v := .tuple #[v1, v2, v3]) he hd (fun a w hf hs => by
    have e1 := h1 a w hf hs
    have e2 := h2 a w hf hs
    have e3 := h3 a w hf hs
    simp [results_eq, hres, Array.mapM_eq_mapM_toList, e1, e2, e3]) fun w hs => ⟨_, l, rfl, hs, h⟩
end

def sub : Fr → Fr → Prop
  | [], _ => True
  | (t, v) :: r, env => look env t = some v ∧ sub r env
theorem sub.look {env : Fr} : ∀ {e : Fr}, sub e env → ∀ t v, SL.look e t = some v → SL.look env t = some v
  | [], _, t, v, h => by simp [SL.look] at h
  | (d, u) :: r, hs, t, v, h => by
    by_cases hd : d = t
    · subst hd; rw [look_cons_eq] at h; cases h; exact hs.1
    · rw [look_cons_ne hd] at h; exact hs.2.look t v h
theorem l_callF (he : Ent P f) {xs : List Operand} {us : List Value} {ts : Array TypeId} (hx : vals env xs = some us)
    (hn : Nat.blt d n = true) (hc : Fc P E f us.toArray l R) (h : ∀ v l', R v l' → N ((d, v) :: env) l') :
    LS P E n ds ⟨some d, .call ⟨.value (.func f), xs.toArray, ts⟩, ty, pos, af, gd⟩ env l N := l_call he (fs := #[]) (cs := #[]) rfl hx hn (by simpa using hc) h
/-- A call of a function value: what it has captured stands behind the arguments. -/
theorem l_callV (he : Ent P f) {fx : Operand} {xs : List Operand} {us cs : List Value} {ts : Array TypeId} (hf : val env fx = some (.func (.func f) #[] cs.toArray)) (hx : vals env xs = some us)
    (hn : Nat.blt d n = true) (hc : Fc P E f (us ++ cs).toArray l R) (h : ∀ v l', R v l' → N ((d, v) :: env) l') :
    LS P E n ds ⟨some d, .call ⟨.value fx, xs.toArray, ts⟩, ty, pos, af, gd⟩ env l N := l_call he (fs := #[]) hf hx hn (by simpa using hc) h
theorem exists_least (p : Nat → Prop) (h : ∃ m, p m) : ∃ m, p m ∧ ∀ k, p k → m ≤ k := by
  obtain ⟨m, hm⟩ := h
  induction m using Nat.strongRecOn with
  | _ m ih =>
    by_cases hk : ∃ k, k < m ∧ p k
    · obtain ⟨k, hlt, hp⟩ := hk
      exact ih k hlt hp
    · exact ⟨m, hm, fun k hp => by
        rcases Nat.lt_or_ge k m with h | h
        · exact absurd ⟨k, h, hp⟩ hk
        · exact h⟩
/-- A loop: what holds of the frame and the list at each round's head, and a number that sinks. -/
theorem J.loop {c : Code} {Q : Exit → Act → World → Prop} {α : Type} (I : α → Prop) (S : α → Fr) (L : α → List HProp) (μ : α → Nat) (s0 : α) (hI : I s0) (h0 : sub (S s0) env) (hl : ∀ w, Sat E (stars l) w → Sat E (stars (L s0)) w)
    (round : ∀ s, I s → J P E ρ n ds c (Exit.then (fun a w => ∃ s', I s' ∧ Frm n ds (S s') a ∧ Sat E (stars (L s')) w ∧ μ s' < μ s) Q) (S s) (L s)) : J P E ρ n ds (.loop c) Q env l := fun a w hf hs => by
  -- the number that sinks, of the least state that fits
  classical
  let Fits (a : Act) (w : World) (m : Nat) : Prop := ∃ s, I s ∧ Frm n ds (S s) a ∧ Sat E (stars (L s)) w ∧ μ s = m
  have key : ∀ m a w, Fits a w m → (Code.loop c).wpIn (Fw ρ) 0 P Q a w := by
    intro m a w hm
    let least (a : Act) (w : World) : Nat := if h : ∃ m, Fits a w m then Classical.choose (exists_least _ h) else 0
    have least_spec : ∀ a w m, Fits a w m → Fits a w (least a w) ∧ least a w ≤ m := fun a w m h => by
      have he : ∃ m, Fits a w m := ⟨m, h⟩
      simp only [least, dif_pos he]
      have hc := Classical.choose_spec (exists_least _ he)
      exact ⟨hc.1, hc.2 m h⟩
    refine wpIn_loop (fun a w => ∃ m, Fits a w m) least ⟨m, hm⟩ fun a w ⟨m, hm⟩ => ?_
    obtain ⟨⟨s, hi, hf, hs, hμ⟩, _⟩ := least_spec a w m hm
    refine wpIn_mono (round s hi a w hf hs) fun e a' w' q => ?_
    cases e with
    | normal =>
      obtain ⟨s', hi', hf', hs', hlt⟩ := q
      have hfit : Fits a' w' (μ s') := ⟨s', hi', hf', hs', rfl⟩
      exact ⟨⟨_, hfit⟩, by have := (least_spec a' w' _ hfit).2; omega⟩
    | exit id => exact q
    | goto l => exact q
    | ret => exact q
    | panic ch => exact q
    | outgrown => exact q
  exact key _ a w ⟨s0, hI, hf.weak h0.look, hl w hs, rfl⟩
/-- The end of a round. -/
theorem JE.round {α : Type} {Q : Exit → Act → World → Prop} {I : α → Prop} {S : α → Fr} {L : α → List HProp} {μ : α → Nat} {s : α} (s' : α) (hI : I s') (h0 : sub (S s') env) (hl : ∀ w, Sat E (stars l) w → Sat E (stars (L s')) w) (hm : μ s' < μ s) :
    JE E n ds (Exit.then (fun a w => ∃ s', I s' ∧ Frm n ds (S s') a ∧ Sat E (stars (L s')) w ∧ μ s' < μ s) Q) .normal env l := fun _ w hf hs => ⟨s', hI, hf.weak h0.look, hl w hs, hm⟩

theorem J.weak {c : Code} {Q : Exit → Act → World → Prop} {env' : Fr} (h : J P E ρ n ds c Q env' l') (he : sub env' env) (hl : ∀ w, Sat E (stars l) w → Sat E (stars l') w) : J P E ρ n ds c Q env l := fun a w hf hs => h a w (hf.weak he.look) (hl w hs)
variable {Q : Exit → Act → World → Prop} {ops : Array Oper} {o : Oper} {rest : List Oper}
theorem Frm.set {a : Act} {env : Fr} {t : Nat} {v : Value} (h : Frm n ds env a) (hv : look env t = some v) : Frm n ds ((t, v) :: env) a := h.weak fun s u e => by
  by_cases hs : t = s
  · subst hs; rw [look_cons_eq] at e; cases e; exact hv
  · rw [look_cons_ne hs] at e; exact e
/-- A guard's bool is parted. -/
theorem JL.gsplit {j s : Nat} {b c : Bool} (hg : o.guard = some (j, b)) (hgd : (ops[j]?).bind (·.dst) = some s) (hgv : look env s = some (.bool c))
    (h1 : c = true → JL P E ρ n ds ops Q (o :: rest) ((s, .bool true) :: env) l) (h2 : c = false → JL P E ρ n ds ops Q (o :: rest) ((s, .bool false) :: env) l) : JL P E ρ n ds ops Q (o :: rest) env l := fun a w hf hs => by
  have := hg
  have := hgd
  cases c with
  | true => exact h1 rfl a w (hf.set hgv) hs
  | false => exact h2 rfl a w (hf.set hgv) hs
theorem JL.gsplit_dec {j s : Nat} {b : Bool} {p : Prop} {hp : Decidable p} (hg : o.guard = some (j, b)) (hgd : (ops[j]?).bind (·.dst) = some s) (hgv : look env s = some (.bool (decide p)))
    (h1 : p → JL P E ρ n ds ops Q (o :: rest) ((s, .bool true) :: env) l) (h2 : ¬ p → JL P E ρ n ds ops Q (o :: rest) ((s, .bool false) :: env) l) : JL P E ρ n ds ops Q (o :: rest) env l :=
  JL.gsplit hg hgd hgv (fun e => h1 (of_decide_eq_true e)) (fun e => h2 (of_decide_eq_false e))
end
end Go.SL
namespace Go.SL
open Go Go.RowKit

section
variable {α : Type} {enc : α → List Value} {k : Nat} {xs : List α} {sp : List Value}
theorem seg_len (h : ∀ x ∈ xs, (enc x).length = k) : (xs.flatMap enc).length = xs.length * k := by
  induction xs with
  | nil => simp
  | cons x r ih => simp [h x (by simp), ih (fun y hy => h y (by simp [hy])), Nat.add_mul]; omega
theorem seg_drop (h : ∀ x ∈ xs, (enc x).length = k) (i : Nat) : (xs.flatMap enc).drop (i * k) = (xs.drop i).flatMap enc := by
  induction xs generalizing i with
  | nil => simp
  | cons x r ih =>
    cases i with
    | zero => simp
    | succ i =>
      have hx := h x (by simp)
      rw [List.flatMap_cons, show (i + 1) * k = (enc x).length + i * k by rw [hx, Nat.add_mul]; omega, List.drop_append]
      have := ih (fun y hy => h y (by simp [hy])) i
      rw [List.drop_of_length_le (by omega), show (enc x).length + i * k - (enc x).length = i * k by omega, List.nil_append, List.drop_succ_cons, this]
theorem seg_get (h : ∀ x ∈ xs, (enc x).length = k) {i : Nat} {x : α} (hx : xs[i]? = some x) : ((xs.flatMap enc ++ sp).drop (i * k)).take k = enc x := by
  have hi : i < xs.length := by
    rcases Nat.lt_or_ge i xs.length with h | h
    · exact h
    · simp [List.getElem?_eq_none h] at hx
  have hl := seg_len h
  have hle : i * k ≤ xs.length * k := Nat.mul_le_mul_right k (by omega)
  rw [List.drop_append_of_le_length (by omega), seg_drop h]
  have hd : xs.drop i = x :: xs.drop (i + 1) := by
    rw [List.drop_eq_getElem_cons hi]
    congr 1
    rw [List.getElem?_eq_getElem hi] at hx
    exact Option.some.inj hx
  have hxk := h x (List.mem_of_getElem? hx)
  rw [hd, List.flatMap_cons, List.append_assoc, ← hxk]
  exact List.take_left
end

/-- Cells of one kind. -/
def ints (k : IntKind) (xs : List Int) : List Value := xs.map (Value.int k)
@[simp] theorem ints_length (k : IntKind) (xs : List Int) : (ints k xs).length = xs.length := by simp [ints]
theorem ints_one (k : IntKind) (xs : List Int) : ∀ v ∈ ints k xs, v.oneCell' = true := by
  intro v hv
  obtain ⟨x, _, rfl⟩ := List.mem_map.1 hv
  rfl
end Go.SL
namespace Go.SL
open Go Go.RowKit

/-- The parts of a composite value laid over its noughts. -/
def fillE (pl : List (Nat × Nat)) : List Value → List (Nat × List Value) → List Value
  | cs, [] => cs
  | cs, (i, vs) :: r => match pl[i]? with
    | some (off, sz) => fillE pl (cs.take off ++ vs ++ cs.drop (off + sz)) r
    | none => cs
def fillOk (pl : List (Nat × Nat)) (n : Nat) : List (Nat × List Value) → Prop
  | [] => True
  | (i, vs) :: r => (match pl[i]? with
    | some (off, sz) => vs.length = sz ∧ off + sz ≤ n
    | none => False) ∧ fillOk pl n r
theorem fold_set (vs : List Value) : ∀ (cs : Array Value) (off k : Nat), off + k + vs.length ≤ cs.size →
    (vs.zipIdx k).foldl (fun cs (c : Value × Nat) => cs.setIfInBounds (off + c.2) c.1) cs = (cs.toList.take (off + k) ++ vs ++ cs.toList.drop (off + k + vs.length)).toArray := by
  induction vs with
  | nil => intro cs off k h; simp
  | cons v r ih =>
    intro cs off k h
    simp only [List.length_cons] at h
    rw [List.zipIdx_cons, List.foldl_cons, ih _ off (k + 1) (by simp; omega)]
    have e := list_seg_step cs.toList (off + k) v r (by simp; omega)
    congr 1
    simpa [Array.toList_setIfInBounds, Nat.add_assoc] using e
theorem fill_eq (place : Nat → Option (Nat × Nat)) (pl : List (Nat × Nat)) : ∀ (pv : List (Nat × Value)) (cs : List Value), (∀ q ∈ pv, place q.1 = pl[q.1]?) → fillOk pl cs.length (pv.map fun q => (q.1, q.2.cells.toList)) →
    Instr.fill place cs.toArray pv = some (fillE pl cs (pv.map fun q => (q.1, q.2.cells.toList))).toArray
  | [], cs, _, _ => by simp [Instr.fill, fillE]
  | (i, v) :: r, cs, hp, hok => by
    have hi : place i = pl[i]? := hp (i, v) (by simp)
    simp only [List.map_cons, fillOk] at hok
    obtain ⟨h1, h2⟩ := hok
    simp only [Instr.fill, hi, List.map_cons, fillE]
    cases e : pl[i]? with
    | none => rw [e] at h1; exact h1.elim
    | some q =>
      obtain ⟨off, sz⟩ := q
      rw [e] at h1
      simp only [Array.length_toList] at h1
      have hc : ¬ (v.cells.size ≠ sz ∨ cs.length < off + v.cells.size) := by omega
      have hf := fold_set v.cells.toList cs.toArray off 0 (by simp; omega)
      simp only [Nat.add_zero, Array.length_toList] at hf
      have hb : (v.cells.size != sz || decide (off + v.cells.size > cs.toArray.size)) = false := by simp; omega
      have hf' : v.cells.zipIdx.foldl (fun cs (x : Value × Nat) => cs.setIfInBounds (off + x.2) x.1) cs.toArray = (cs.take off ++ v.cells.toList ++ cs.drop (off + v.cells.size)).toArray := by
        rw [← Array.foldl_toList, Array.toList_zipIdx]
        exact hf
      have hlen : (cs.take off ++ v.cells.toList ++ cs.drop (off + v.cells.size)).length = cs.length := by simp; omega
      simp only [ne_eq, Bool.or_eq_true, decide_eq_true_eq, List.size_toArray] at hb ⊢
      rw [if_neg (by simp; omega)]
      rw [hf', fill_eq place pl r _ (fun q hq => hp q (by simp [hq])) (by rw [hlen]; exact h2), h1.1]

section
variable {P : Program} {E : World} {ρ : Option Nat} {n : Nat} {ds : List Deferred} {env : Fr} {l : List HProp} {T : Tab} {N : Fr → List HProp → Prop}
variable {d : Tmp} {dst : Option Tmp} {ty : TypeId} {pos : String} {af : Array Edge} {gd : Option (Nat × Bool)} {x y z : Operand} {v u : Value} {t t' : TypeId} {o : Oper}

/-- What stands in which place, told as values. -/
def partsV (env : Fr) : List (Nat × Operand) → Option (List (Nat × Value))
  | [] => some []
  | (i, x) :: r => match val env x with
    | none => none
    | some v => match partsV env r with
      | none => none
      | some vs => some ((i, v) :: vs)
theorem Frm.parts {a : Act} (h : Frm n ds env a) : ∀ {l : List (Nat × Operand)} {vs : List (Nat × Value)}, partsV env l = some vs → l.map (fun q => (q.1, a.eval q.2)) = vs
  | [], _, e => by simp [partsV] at e; simp [e]
  | (i, x) :: r, vs, e => by
    simp only [partsV] at e
    cases e1 : val env x with
    | none => simp [e1] at e
    | some v =>
      cases e2 : partsV env r with
      | none => simp [e1, e2] at e
      | some us =>
        simp [e1, e2] at e
        subst e
        simp [h.eval e1, h.parts e2]
/-- Where a struct's fields lie. -/
def placesOf (T : Tab) : List Field → Option (List (Nat × Nat))
  | [] => some []
  | f :: r => match T.at f.type with
    | none => none
    | some i => match placesOf T r with
      | none => none
      | some l => some ((f.offset, i.size) :: l)
theorem run_places (hT : Tok P T) (w : World) : ∀ {fs : List Field} {pl : List (Nat × Nat)}, placesOf T fs = some pl → (fs.mapM fun f => (do pure (f.offset, ← sizeOf f.type) : Sem (Nat × Nat))).run P w = .ok pl w
  | [], pl, h => by simp [placesOf] at h; subst h; simp
  | f :: r, pl, h => by
    simp only [placesOf] at h
    cases e1 : T.at f.type with
    | none => simp [e1] at h
    | some i =>
      cases e2 : placesOf T r with
      | none => simp [e1, e2] at h
      | some l =>
        simp [e1, e2] at h
        subst h
        have h1 := hT.siz w e1
        have h2 := run_places hT w e2
        simp only [List.mapM_cons, Sem.run_bind, h1, Result.andThen_ok, Sem.run_pure, h2]
theorem y_build (hT : Tok P T) {i : TI} {fs : Array Field} {zc : Value} {zs cs : List Value} {parts : List (Nat × Operand)} {pv : List (Nat × Value)} {pl : List (Nat × Nat)} (hi : T.at t = some i) (hk : i.u = .struct fs) (hz : i.zero = some zc) (hzc : zc.cells = zs.toArray)
    (hparts : partsV env parts = some pv) (hpl : placesOf T fs.toList = some pl) (hok : fillOk pl zs.length (pv.map fun q => (q.1, q.2.cells.toList))) (hc : fillE pl zs (pv.map fun q => (q.1, q.2.cells.toList)) = cs) :
    Y P E n ds ⟨dst, .build t parts.toArray, ty, pos, af, gd⟩ env l (.agg cs.toArray) :=
  Y.of fun a w hf _ => by
    have h1 := hT.und w hi
    rw [hk] at h1
    have h3 := hT.zer w hi hz
    have h4 := run_places hT w hpl
    have h5 : (fs.mapM fun f => (do pure (f.offset, ← sizeOf f.type) : Sem (Nat × Nat))).run P w = .ok pl.toArray w := by
      rw [Array.mapM_eq_mapM_toList]
      simp only [Sem.run_map, h4, Result.andThen_ok]
    have h6 := fill_eq (fun i => pl.toArray[i]?) pl pv zs (fun q _ => by simp) hok
    have h7 := hf.parts hparts
    simp only [execOp, Instr.build, Sem.run_bind, h3, Result.andThen_ok, h1, h5, hzc, List.map_toArray, h7]
    rw [h6, hc]
    rfl
theorem y_build_arr0 (hT : Tok P T) {i : TI} {zs : List Value} {m : Nat} {e : TypeId} {j : TI} (hi : T.at t = some i) (hag : i.u = .array m e) (hj : T.at e = some j) (hz : i.zero = some (.agg zs.toArray)) :
    Y P E n ds ⟨dst, .build t #[], ty, pos, af, gd⟩ env l (.agg zs.toArray) :=
  Y.of fun a w hf _ => by
    have h1 := hT.und w hi
    rw [hag] at h1
    have h2 := hT.siz w hj
    have h3 := hT.zer w hi hz
    simp [execOp, Instr.build, h1, h2, h3, Instr.fill, Value.cells]
theorem lays_buildSlice (hT : Tok P T) {i j : TI} {e : TypeId} {len : Nat} {parts : List (Nat × Operand)} {pv : List (Nat × Value)} {zc : Value} {cs : List Value} {a : Act} (hi : T.at t = some i) (hk : i.u = .slice e) (hj : T.at e = some j) (hz : j.zero = some zc) (hf : Frm n ds env a)
    (hparts : partsV env parts = some pv) (hsm : Nat.ble (len * j.size) 16777216 = true) (hpos : Nat.ble 1 (len * j.size) = true)
    (hfill : Instr.fill (fun i => some (i * j.size, j.size)) ((Array.range (len * j.size)).map (zc.cells[· % zc.cells.size]!)) pv = some cs.toArray) :
    Lays P ⟨dst, .buildSlice t len parts.toArray, ty, pos, af, gd⟩ a (fun b => .slice (some ⟨b, 0, none⟩) len len) (.cells cs.toArray e (0, 0)) := fun w => by
  have h1 := hT.und w hi
  rw [hk] at h1
  have h2 := hT.siz w hj
  have h3 := hT.zer w hj hz
  have hpv := hf.parts hparts
  have hle : ¬ (16777216 < len * j.size) := by have := Nat.le_of_ble_eq_true hsm; omega
  have h0 : ¬ (len * j.size = 0) := by have := Nat.le_of_ble_eq_true hpos; omega
  simp [execOp, Instr.buildSlice, h1, h2, hle, h0, h3, hpv, hfill, newRow]
/-- A slice of one element that is given whole. -/
theorem fill_one {size : Nat} {zc v : Value} {cs : List Value} (hv : v.cells = cs.toArray) (hl : cs.length = size) : Instr.fill (fun i => some (i * size, size)) ((Array.range (1 * size)).map (zc.cells[· % zc.cells.size]!)) [(0, v)] = some cs.toArray := by
  have h := fill_eq (fun i => some (i * size, size)) [(0, size)] [(0, v)] ((Array.range (1 * size)).map (zc.cells[· % zc.cells.size]!)).toList (fun q hq => by simp at hq; subst hq; simp) (by simp [fillOk, hv, hl])
  have e : ((Array.range (1 * size)).map (zc.cells[· % zc.cells.size]!)).toList.toArray = (Array.range (1 * size)).map (zc.cells[· % zc.cells.size]!) := rfl
  rw [e] at h
  rw [h]
  have e2 : (List.map (fun x => zc.cells[x % zc.cells.size]!) (List.range size)).length = size := by simp
  simp [fillE, hv]
theorem Fc.post {f : FuncId} {args : Array Value} {R : Value → List HProp → Prop} (h : Fc P E f args l (fun v l' => ∃ l'', (∀ w, Sat E (stars l') w → Sat E (stars l'') w) ∧ R v l'')) : Fc P E f args l R := fun w hs =>
  (h w hs).mono fun _ _ ⟨v, _, he, s, l'', hi, hR⟩ => ⟨v, l'', he, hi _ s, hR⟩
theorem Fc.eqs {f : FuncId} {args : Array Value} {v : Value} {l' : List HProp} (h : Fc P E f args l (fun u l'' => u = v ∧ ∀ w, Sat E (stars l'') w → Sat E (stars l') w)) : Fc P E f args l (fun u l'' => u = v ∧ l'' = l') := Fc.post (h.mono fun _ _ ⟨h1, h2⟩ => ⟨l', h2, h1, rfl⟩)
variable {c : Code} {Q : Exit → Act → World → Prop}
theorem RdN.rowAll {r : List HProp} {b e : Nat} {cs : List Value} (p : Pick l (SL.row b e cs) r) : RdN l b 0 cs := RdN.row (n := cs.length) p (by simp)
end
end Go.SL
namespace Go.SL
open Go Go.RowKit

/-- The record of a loop over a function. -/
abbrev rec (fn : FuncId) (tmps : Array Value) (ps : Array Tmp) (assign body : Code) (D : Nat) (st : LoopState) (pend : Option Code) : Loop :=
  { state := st, pending := pend, fn, tmps, params := ps, assign, body, defers := D }
abbrev mark (D : Nat) : Deferred := { target := .collected D, args := #[] }

theorem Sat.putObj {E w : World} {l : List HProp} {b : Nat} {o : Obj} (s : Sat E (stars (blk b o :: l)) w) (o' : Obj) : Sat E (stars (blk b o' :: l)) (w.putObj b o') :=
  s.turn rfl rfl rfl (World.putObj_heap_same (Array.getElem?_eq_some_iff.1 s.block).1) (fun _ hk => World.putObj_heap_other hk)

section
variable (P : Program) (E : World)
/-- A call of yield of the loop l. -/
def Yc (l : Nat) (args : Array Value) (L : List HProp) (R : Value → List HProp → Prop) : Prop :=
  ∀ w, Sat E (stars L) w → ∃ f tmps assign body, (Instr.yield l args).run P w = .ok (.round l f tmps assign body) w ∧
    RoundIn (Fw none) 0 P l f tmps assign body w (fun e w' => ∃ v l', e = .returned v ∧ Sat E (stars l') w' ∧ R v l')
end
section
variable {P : Program} {E : World} {ρ : Option Nat} {n : Nat} {ds : List Deferred} {env : Fr} {l r : List HProp} {Q : Exit → Act → World → Prop} {ops : Array Oper} {rest : List Oper} {R R' : Value → List HProp → Prop}
variable {d : Tmp} {dst : Option Tmp} {ty : TypeId} {pos : String} {af : Array Edge} {gd : Option (Nat × Bool)} {x y z : Operand} {v u : Value} {t t' : TypeId}

theorem Yc.imp {k : Nat} {args : Array Value} {l' : List HProp} (h : Yc P E k args l' R) (hi : ∀ w, Sat E (stars l) w → Sat E (stars l') w) : Yc P E k args l R := fun w hs => h w (hi w hs)
theorem Yc.post {k : Nat} {args : Array Value} (h : Yc P E k args l (fun v l' => ∃ l'', (∀ w, Sat E (stars l') w → Sat E (stars l'') w) ∧ R v l'')) : Yc P E k args l R := fun w hs =>
  let ⟨f, tm, as_, bo, h1, h2⟩ := h w hs
  ⟨f, tm, as_, bo, h1, h2.mono fun _ _ ⟨v, _, he, s, l'', hi, hR⟩ => ⟨v, l'', he, hi _ s, hR⟩⟩

/-- A call of yield in an iterator's text. -/
theorem JL.yield {k : Nat} {fx : Operand} {xs : List Operand} {us : List Value} {ts : Array TypeId} (hf : val env fx = some (.func (.yield k) #[] #[])) (hx : vals env xs = some us)
    (hn : Nat.blt d n = true) (hc : Yc P E k us.toArray l R) (h : ∀ v l', R v l' → JL P E ρ n ds ops Q rest ((d, v) :: env) l') :
    JL P E ρ n ds ops Q (⟨some d, .call ⟨.value fx, xs.toArray, ts⟩, ty, pos, af, none⟩ :: rest) env l := fun a w hfr hs => by
  refine wpListIn_plain rfl fun K hK => ?_
  obtain ⟨f, tm, as_, bo, h1, h2⟩ := hc w hs
  have e3 : Array.map a.eval xs.toArray = us.toArray := by rw [← hfr.evals hx]; simp
  refine ⟨fun _ _ => trivial, ?_⟩
  rw [semAt_of rfl]
  have e1 : (execOp a.eval ⟨some d, .call ⟨.value fx, xs.toArray, ts⟩, ty, pos, af, none⟩).run P w = .ok (.round k f tm as_ bo) w := by
    simp only [execOp, resolve, e3, hfr.eval hf, Deferred.ofValue, Sem.run_bind, Sem.run_pure, Result.andThen_ok, invoke]
    simpa using h1
  rw [e1, Oper.uponIn_round]
  refine ⟨fun e => by simp [Fw, Fence.wide] at e, RoundIn.mono (F := Fw ρ) (n := 0) ⟨trivial, h2.2⟩ ?_⟩
  rintro e w' ⟨v, l', rfl, h3, h4⟩
  exact hK _ _ (h v l' h4 _ w' (hfr.put v hn) h3)

/-- The loop's record as an assertion. -/
abbrev recK (k : Nat) (fn : FuncId) (tmps : Array Value) (ps : List Tmp) (assign body : Code) (D : Nat) : LoopState → Option Code → HProp := fun st pd => blk k (.loop (rec fn tmps ps.toArray assign body D st pd))
/-- What a round of the caller's body is to the iterator. -/
theorem Yc.of_body {k D : Nat} {fn : FuncId} {a0 : Act} {ps : List Tmp} {assign body : Code} {us : List Value} {K : LoopState → Option Code → HProp} (hK : K = recK k fn a0.tmps ps assign body D) (hf : Frm n ds env a0) (hps : ps.length = us.length) (hpn : ∀ t ∈ ps, t < n)
    (hb : J P E (some k) n [] assign (Exit.then (fun a w => ∃ env' l', Frm n [] env' a ∧ Sat E (stars (K .ready none :: l')) w ∧
        J P E (some k) n [] body (roundPost P k (fun e w' => ∃ v l', e = .returned v ∧ Sat E (stars l') w' ∧ R v l')) env' (K .busy none :: l')) (fun _ _ _ => False))
      ((ps.zip us).reverse ++ env) (K .ready none :: l)) :
    Yc P E k us.toArray (K .ready none :: l) R := fun w hs => by
  subst hK
  refine ⟨_, _, _, _, run_yield hs.block (by simp [hps]), ?_⟩
  refine roundIn_of_wpIn trivial ?_
  have hfr : Frm n [] ((ps.zip us).reverse ++ env) { tmps := (ps.toArray.zip us.toArray).foldl (fun tmps (x : Tmp × Value) => tmps.setIfInBounds x.1 x.2) a0.tmps, defers := [] } := by
    have key : ∀ (zs : List (Tmp × Value)) (tm : Array Value) (e : Fr), (∀ z ∈ zs, z.1 < n) → Frm n [] e ({ tmps := tm, defers := [] } : Act) → Frm n [] (zs.reverse ++ e) ({ tmps := zs.foldl (fun tmps (x : Tmp × Value) => tmps.setIfInBounds x.1 x.2) tm, defers := [] } : Act) := by
      intro zs
      induction zs with
      | nil => intro tm e _ h; exact h
      | cons z zs ih =>
        intro tm e hz h
        have h1 := h.put (d := z.1) z.2 (by have := hz z (by simp); exact Nat.blt_eq.mpr this)
        have h2 := ih (tm.setIfInBounds z.1 z.2) ((z.1, z.2) :: e) (fun y hy => hz y (by simp [hy])) h1
        simpa using h2
    have h0 : Frm n [] env ({ tmps := a0.tmps, defers := [] } : Act) := ⟨hf.size, rfl, hf.slot⟩
    have h1 := key (ps.zip us) a0.tmps env (fun z hz => hpn _ (List.of_mem_zip hz).1) h0
    have e1 : (ps.toArray.zip us.toArray) = (ps.zip us).toArray := by simp [List.zip]
    rw [e1]
    simpa using h1
  refine wpIn_mono (hb _ w hfr hs) fun e a1 w1 q => ?_
  cases e with
  | normal =>
    obtain ⟨env', l', h1, h2, h3⟩ := q
    exact ⟨_, run_beginRound h2.block rfl, h3 a1 _ h1 (h2.putObj _)⟩
  | exit id => exact q
  | goto l => exact q
  | ret => exact q
  | panic ch => exact q
  | outgrown => exact q

section
variable {k D : Nat} {fn : FuncId} {tm : Array Value} {ps : List Tmp} {assign body : Code} {st : LoopState} {pd : Option Code} {K : LoopState → Option Code → HProp}
theorem JE.assigned {Rq : Exit → Act → World → Prop} (hp : Pick l (K .ready none) r)
    (h : J P E (some k) n [] body Rq env (K .busy none :: r)) :
    JE E n [] (Exit.then (fun a w => ∃ env' l', Frm n [] env' a ∧ Sat E (stars (K .ready none :: l')) w ∧
        J P E (some k) n [] body Rq env' (K .busy none :: l')) (fun _ _ _ => False)) .normal env l := fun _ _ hf hs => ⟨env, r, hf, hs.pick hp, h⟩
theorem JE.round_on (hK : K = recK k fn tm ps assign body D) (hp : Pick l (K st pd) r) (h : R (.bool true) (K .ready none :: r)) :
    JE E n ds (roundPost P k (fun e w' => ∃ v l', e = .returned v ∧ Sat E (stars l') w' ∧ R v l')) .normal env l := fun a w _ hs => by
  subst hK
  exact ⟨_, _, run_endRound none (hs.pick hp).block, _, _, rfl, (hs.pick hp).putObj _, h⟩
theorem JE.round_ret (hK : K = recK k fn tm ps assign body D) (hp : Pick l (K st pd) r) (h : R (.bool false) (K .done (some .ret) :: r)) :
    JE E n ds (roundPost P k (fun e w' => ∃ v l', e = .returned v ∧ Sat E (stars l') w' ∧ R v l')) .ret env l := fun a w _ hs => by
  subst hK
  exact ⟨_, _, run_endRound (some .ret) (hs.pick hp).block, _, _, rfl, (hs.pick hp).putObj _, h⟩
end

/-- 'for .. := range g { .. }', outermost. -/
theorem J.rangeFunc {f : FuncId} (he : Ent P f) {g : Operand} {cs : List Value} {ps : List Tmp} {assign body : Code} (hg : val env g = some (.func (.func f) #[] cs.toArray))
    (h : ∀ (fn : FuncId) (a0 : Act) (k D : Nat) (K : LoopState → Option Code → HProp), K = recK k fn a0.tmps ps assign body D → Frm n ds env a0 → Fc P E f (.func (.yield k) #[] #[] :: cs).toArray (K .ready none :: blk D (.deferred (some [])) :: l)
      (fun _ l' => ∃ st pd r, Pick l' (K st pd) r ∧ st ≠ .busy ∧
        (match pd with
         | none => JE E n (mark D :: ds) Q .normal env r
         | some c => J P E none n (mark D :: ds) c Q env r))) :
    J P E none n ds (.rangeFunc g ps.toArray assign body) Q env l := fun a w hfr hs => by
  refine wpIn_rangeFunc fun fn _ => ?_
  have hen := run_enterLoop_outer (P := P) (w := w) fn a.tmps ps.toArray assign body
  refine ⟨w.heap.size + 1, _, _, { target := .fn (.func f) cs.toArray, args := #[.func (.yield (w.heap.size + 1)) #[] #[]] }, (w.alloc (.deferred (some []))).alloc (.loop (rec fn a.tmps ps.toArray assign body w.heap.size .ready none)), f,
    (.func (.yield (w.heap.size + 1)) #[] #[] :: cs).toArray, (w.alloc (.deferred (some []))).alloc (.loop (rec fn a.tmps ps.toArray assign body w.heap.size .ready none)), hen, ?_, fun _ _ => trivial, ?_, fun e => by simp [Fw, Fence.wide] at e, ?_⟩
  · simp only [resolve, hfr.eval hg, Deferred.ofValue]
    simp [Act.eval]
  · have e2 := he (.func (.yield (w.heap.size + 1)) #[] #[] :: cs).toArray ((w.alloc (.deferred (some []))).alloc (.loop (rec fn a.tmps ps.toArray assign body w.heap.size .ready none)))
    simp only [invoke]
    rw [← e2]
    congr 2
    simp
  · have s1 := (hs.alloc (.deferred (some []))).alloc (.loop (rec fn a.tmps ps.toArray assign body w.heap.size .ready none))
    have hsz : (w.alloc (.deferred (some []))).heap.size = w.heap.size + 1 := by simp
    rw [hsz] at s1
    refine calls_in ((h fn a (w.heap.size + 1) w.heap.size _ rfl hfr _ s1).mono ?_)
    rintro e w' ⟨v, l', rfl, s, st, pd, r, hp, hst, hq⟩
    have s2 := s.pick hp
    refine ⟨pd, _, run_endLoop s2.block hst, ?_⟩
    have s3 := (s2.putObj (.loop (rec fn a.tmps ps.toArray assign body w.heap.size .exhausted pd))).drop
    have hf' : Frm n (mark w.heap.size :: ds) env ({ a with defers := mark w.heap.size :: a.defers } : Act) := ⟨hfr.size, by rw [← hfr.defers], hfr.slot⟩
    cases pd with
    | none => exact hq _ _ hf' s3
    | some c => exact hq _ _ hf' s3

/-- A function whose body holds such a loop. -/
theorem Fc.of_bodyM {f : FuncId} {fn : Func} {c : Code} {vs : List Value} (hf : P.funcs[f]? = some fn) (hb : fn.body = some c) (hn : fn.ntmps = n) (hle : Nat.ble vs.length n = true)
    (h : J P E none n [] c (bodyPostM (Fw none) 0 P fn (Ret E R)) (args0 0 vs) l) : Fc P E f vs.toArray l R := fun w hs => by
  refine (callsIn_wide (n := 0)).1 (callsIn_of_wp_marks hf hb trivial (h _ w ?_ hs))
  have hle' := Nat.le_of_ble_eq_true hle
  refine ⟨by simp [hn]; omega, rfl, fun t v e => ?_⟩
  obtain ⟨_, h2⟩ := look_args0 vs 0 t v e
  have hlt : t < vs.length := by
    rcases Nat.lt_or_ge t vs.length with h | h
    · exact h
    · simp [List.getElem?_eq_none h] at h2
  simp only [Nat.sub_zero] at h2
  rw [List.getElem?_eq_getElem hlt] at h2
  rw [Array.getElem?_append]
  simp [hlt, Option.some.inj h2]
theorem JE.unmark {fn : Func} {e : Exit} {D : Nat} {Rr : Ending → World → Prop} (he : e = .ret ∨ e = .normal) (hd : ds = [mark D]) (hp : Pick l (blk D (.deferred (some []))) r)
    (h : JE E n [] (bodyPost P fn Rr) e env r) : JE E n ds (bodyPostM (Fw none) 0 P fn Rr) e env l := fun a w hf hs => by
  have s1 := hs.pick hp
  have s2 := (s1.putObj (.deferred none)).drop
  have h0 : Frm n [] env ({ a with defers := [] } : Act) := ⟨hf.size, rfl, hf.slot⟩
  have hq := h _ _ h0 s2
  have : LeavesInM (Fw none) 0 P fn a.tmps Rr a.defers .returning w := by
    rw [hf.defers, hd]
    refine ⟨by simp, .inl ⟨D, _, rfl, run_takeDeferred s1.block, ?_⟩⟩
    rcases he with rfl | rfl
    · exact hq.2
    · exact hq.2
  rcases he with rfl | rfl <;> exact this
/-- Of a list, what is kept. -/
inductive Sup : List HProp → List HProp → Prop
  | refl {l : List HProp} : Sup l l
  | skip {A : HProp} {l p : List HProp} : Sup l p → Sup (A :: l) p
  | cons {A : HProp} {l p r : List HProp} : Pick l A r → Sup r p → Sup l (A :: p)
theorem Sup.under {l p : List HProp} (h : Sup l p) : ∀ (g : Hp), stars l g → ∃ g', (∀ k o, g' k = some o → g k = some o) ∧ stars p g' := by
  induction h with
  | refl => exact fun g s => ⟨g, fun _ _ e => e, s⟩
  | skip _ ih =>
    rintro g ⟨g1, g2, d, rfl, _, s⟩
    obtain ⟨g', h1, h2⟩ := ih _ s
    refine ⟨g', fun k o e => ?_, h2⟩
    have := d k; have := h1 k o e; simp only [Hp.un]; cases e1 : g1 k <;> simp_all
  | cons hp _ ih =>
    intro g s
    obtain ⟨g1, g2, d, rfl, a, s⟩ := (hp.iff g).1 s
    obtain ⟨g', h1, h2⟩ := ih _ s
    refine ⟨Hp.un g1 g', fun k o e => ?_, g1, g', fun k => ?_, rfl, a, h2⟩
    · simp only [Hp.un] at e ⊢
      cases e1 : g1 k with
      | some x => simpa [e1] using e
      | none => simp only [e1] at e; exact h1 k o e
    · rcases d k with h | h
      · exact .inl h
      · right
        cases e1 : g' k with
        | none => rfl
        | some o => rw [h1 k o e1] at h; cases h
theorem Sat.sup {w : World} {l p : List HProp} (s : Sat E (stars l) w) (h : Sup l p) : Sat E (stars p) w := ⟨s.os, s.tape, s.output, let ⟨g, hs, a⟩ := s.heap; let ⟨g', h1, h2⟩ := h.under g a; ⟨g', fun k o e => hs k o (h1 k o e), h2⟩⟩
theorem Yc.split {k : Nat} {args : Array Value} {p q : List HProp} (h : Yc P E k args (p ++ q) R) (hs : Split l p q) : Yc P E k args l R := h.imp fun _ s => s.divide hs
end
end Go.SL
namespace Go.SL
open Go Go.RowKit

theorem madeCells_rep (v : Value) {k : Nat} (hk : 0 < k) (m : Nat) : (madeCells (List.replicate k v).toArray m).toList = List.replicate m v := by
  apply List.ext_getElem
  · simp [size_madeCells]
  · intro i h1 h2
    simp only [Array.length_toList, size_madeCells] at h1
    have h3 : i % k < k := Nat.mod_lt _ hk
    simp [madeCells, h3]
theorem mk_fits {b : Nat} {c : Int} (hb : Nat.ble b 4096 = true) (h0 : 0 ≤ c) (hc : c ≤ 68719476736) : (b : Int) * c ≤ 281474976710656 := by
  have h1 : (b : Int) ≤ 4096 := by have := Nat.le_of_ble_eq_true hb; omega
  have h2 := Int.mul_le_mul_of_nonneg_right h1 h0
  omega
section
variable {P : Program} {E : World} {ρ : Option Nat} {n : Nat} {ds : List Deferred} {env : Fr} {l r : List HProp} {T : Tab} {N : Fr → List HProp → Prop}
variable {d : Tmp} {dst : Option Tmp} {ty : TypeId} {pos : String} {af : Array Edge} {gd : Option (Nat × Bool)} {x y z : Operand} {v u : Value} {t t' : TypeId} {o : Oper}

theorem guard_arr (hT : Tok P T) {i j : TI} {m : Nat} {e : TypeId} {k : IntKind} (hi : T.at t = some i) (hk : i.u = .array m e) (hj : T.at e = some j) (hjk : j.u = .int k) : P.eqGuardType P.depth t = false := by
  have h1 := (hT t i hi).1
  have h2 := (hT e j hj).1
  rw [hk] at h1
  rw [hjk] at h2
  rw [show P.depth = (2 * (P.types.size + Made.depth)) + 1 + 1 from rfl]
  simp only [Program.eqGuardType, h1, h2]
/-- Arrays of integers. -/
theorem run_equalIn_ints (w : World) (hT : Tok P T) {i j : TI} {m : Nat} {e : TypeId} {k : IntKind} (hi : T.at t = some i) (hk : i.u = .array m e) (hj : T.at e = some j) (hjk : j.u = .int k) (hs : j.size = 1)
    (q : Nat) (xs ys : List Int) (hx : xs.length = m) (hy : ys.length = m) :
    (Op.equalIn (q + 2) t (.agg (ints k xs).toArray) (.agg (ints k ys).toArray)).run P w = .ok (decide (xs = ys)) w := by
  have h1 := (hT t i hi).1
  have h2 := (hT e j hj).1
  have h3 : (sizeOf e).run P w = .ok 1 w := by rw [hT.siz w hj, hs]
  rw [hk] at h1
  rw [hjk] at h2
  have key : decide (xs = ys) = (List.range' 0 m 1).all fun a => xs.getD a 0 == ys.getD a 0 := by
    rw [Bool.eq_iff_iff]
    simp only [decide_eq_true_eq, List.all_eq_true, List.mem_range'_1, beq_iff_eq]
    constructor
    · rintro rfl a _; rfl
    · intro h
      apply List.ext_getElem (by omega)
      intro a ha hb
      have := h a (by omega)
      simpa [List.getD_eq_getElem?_getD, List.getElem?_eq_getElem ha, List.getElem?_eq_getElem hb] using this
  rw [key, Op.equalIn]
  simp only [Sem.run_bind, run_underlying h1, Result.andThen_ok, h3, Std.Legacy.Range.forIn_eq_forIn_range', Std.Legacy.Range.size, Nat.sub_zero, Nat.add_sub_cancel, Nat.div_one]
  have hl : ∀ a ∈ List.range' 0 m 1, a < m := fun a ha => by simpa using (List.mem_range'_1.1 ha).2
  generalize List.range' 0 m 1 = l at hl ⊢
  induction l with
  | nil => simp
  | cons a l ih =>
    have ha : a < m := hl a (by simp)
    have px : (part e (ints k xs).toArray (a * 1)).run P w = .ok (.int k (xs.getD a 0)) w := by
      simp [part, isAgg, run_underlying h2, ints, List.getD, List.getElem?_eq_getElem (show a < xs.length by omega)]
    have py : (part e (ints k ys).toArray (a * 1)).run P w = .ok (.int k (ys.getD a 0)) w := by
      simp [part, isAgg, run_underlying h2, ints, List.getD, List.getElem?_eq_getElem (show a < ys.length by omega)]
    have pe : (Op.equalIn (q + 1) e (.int k (xs.getD a 0)) (.int k (ys.getD a 0))).run P w = .ok (xs.getD a 0 == ys.getD a 0) w := run_equalIn_int w q e k k _ _ h2
    simp only [List.forIn_cons, Sem.run_bind, px, py, pe, Result.andThen_ok, List.all_cons]
    cases hb : (xs.getD a 0 == ys.getD a 0)
    · simp
    · simp only [Bool.not_true, Bool.false_eq_true, if_false, Sem.run_pure, Result.andThen_ok, Bool.true_and]
      exact ih fun b hb => hl b (by simp [hb])
theorem y_arr_eq (hT : Tok P T) {i j : TI} {m : Nat} {e : TypeId} {k : IntKind} (hi : T.at t = some i) (hk : i.u = .array m e) (hj : T.at e = some j) (hjk : j.u = .int k) (hs : j.size = 1)
    {xs ys : List Int} (hx : val env x = some (.agg (ints k xs).toArray)) (hy : val env y = some (.agg (ints k ys).toArray)) (hxl : xs.length = m) (hyl : ys.length = m) :
    Y P E n ds ⟨dst, .binOp .eql t x y t', ty, pos, af, gd⟩ env l (.bool (decide (xs = ys))) :=
  Y.of fun a w hf _ => by
    have g := guard_arr hT hi hk hj hjk
    have h := run_equalIn_ints w hT hi hk hj hjk hs 9998 xs ys hxl hyl
    simp only [execOp, hf.eval hx, hf.eval hy, Sem.run_bind, run_eqGuard_agg w _ t x y _ _ g, Result.andThen_ok, run_eql_struct, h, Sem.run_pure]
/-- An array's literal. -/
theorem y_buildArr (hT : Tok P T) {i j : TI} {m : Nat} {e : TypeId} {zs cs : List Value} {parts : List (Nat × Operand)} {pv : List (Nat × Value)} (hi : T.at t = some i) (hk : i.u = .array m e) (hj : T.at e = some j) (hz : i.zero = some (.agg zs.toArray))
    (hparts : partsV env parts = some pv) (hfill : Instr.fill (fun q => some (q * j.size, j.size)) zs.toArray pv = some cs.toArray) :
    Y P E n ds ⟨dst, .build t parts.toArray, ty, pos, af, gd⟩ env l (.agg cs.toArray) :=
  Y.of fun a w hf _ => by
    have h1 := hT.und w hi
    rw [hk] at h1
    have h2 := hT.siz w hj
    have h3 := hT.zer w hi hz
    have h7 := hf.parts hparts
    simp only [execOp, Instr.build, Sem.run_bind, h3, Result.andThen_ok, h1, h2, List.map_toArray, h7]
    simp only [Value.cells, hfill, Sem.run_pure, Result.andThen_ok]
theorem l_buildSliceP (hT : Tok P T) {i j : TI} {e : TypeId} {len : Nat} {parts : List (Nat × Operand)} {pv : List (Nat × Value)} {zc : Value} {cs : List Value} (hi : T.at t = some i) (hk : i.u = .slice e) (hj : T.at e = some j) (hz : j.zero = some zc)
    (hparts : partsV env parts = some pv) (hsm : Nat.ble (len * j.size) 16777216 = true) (hpos : Nat.ble 1 (len * j.size) = true)
    (hfill : Instr.fill (fun i => some (i * j.size, j.size)) ((Array.range (len * j.size)).map (zc.cells[· % zc.cells.size]!)) pv = some cs.toArray) (hn : Nat.blt d n = true)
    (h : ∀ b, N ((d, .slice (some ⟨b, 0, none⟩) len len) :: env) (row b e cs :: l)) :
    LS P E n ds ⟨some d, .buildSlice t len parts.toArray, ty, pos, af, gd⟩ env l N :=
  LS.of hn rfl fun _ w hf hs => ⟨_, w.alloc (.cells cs.toArray e), _, lays_buildSlice hT hi hk hj hz hf hparts hsm hpos hfill w, hs.alloc _, h w.heap.size⟩
/-- A slice that nobody here owns: n values, whose cells read so whatever is laid ahead of the list. -/
structure InL (l : List HProp) (p : Option Addr) (n cap : Nat) (cs : List Value) : Prop where
  le : n ≤ cap
  most : cap ≤ maxLen
  rd : (∃ b o, p = some ⟨b, o, none⟩ ∧ ∀ m, RdN (m ++ l) b o cs) ∨ (cap = 0 ∧ cs = [])
theorem InL.app {p : Option Addr} {k cap : Nat} {cs : List Value} (h : InL l p k cap cs) (m : List HProp) : InL (m ++ l) p k cap cs :=
  ⟨h.le, h.most, h.rd.imp (fun ⟨b, o, e, hr⟩ => ⟨b, o, e, fun m' => by rw [← List.append_assoc]; exact hr _⟩) id⟩
theorem InL.cons {p : Option Addr} {k cap : Nat} {cs : List Value} (h : InL l p k cap cs) (A : HProp) : InL (A :: l) p k cap cs := h.app [A]
theorem InL.addr {p : Option Addr} {k cap : Nat} {cs : List Value} (h : InL l p k cap cs) (hk : 0 < k) : ∃ b o, p = some ⟨b, o, none⟩ ∧ ∀ m, RdN (m ++ l) b o cs := h.rd.resolve_right fun ⟨e, _⟩ => by have := h.le; omega
theorem InL.old {w0 : World} {p : Option Addr} {k cap : Nat} {cs : List Value} (hl : k ≤ cap) (hm : cap ≤ maxLen) (h : (∃ b o, p = some ⟨b, o, none⟩ ∧ ∀ j v, cs[j]? = some v → w0.cell? ⟨b, o + j, none⟩ = some v) ∨ (cap = 0 ∧ cs = [])) : InL (old w0 :: l) p k cap cs :=
  ⟨hl, hm, h.imp (fun ⟨b, o, e, hr⟩ => ⟨b, o, e, fun m j v hj => Rd1.old (Pick.app m Pick.head) (hr j v hj)⟩) id⟩
/-- Where an owned slice's array lies. -/
structure OwnAt (a : Option Addr) (k cap : Nat) (xs : List Value) : Prop where
  le : k ≤ cap
  most : cap ≤ maxLen
  at_ : (∃ g, a = some ⟨g, 0, none⟩) ∨ (cap = 0 ∧ xs = [])
theorem Sat.own_at {w : World} {e size k cap : Nat} {a : Option Addr} {xs : List Value} (s : Sat E (stars (own e size (.slice a k cap) k xs :: l)) w) : OwnAt a k cap xs := by
  obtain ⟨hl, ⟨h, h0, hx, _⟩ | ⟨g, cap', cur, he, h1, h2, h3, h4, _⟩⟩ := s.own_open
  · simp only [Value.slice.injEq] at h
    obtain ⟨rfl, rfl, rfl⟩ := h
    exact ⟨Nat.le_refl _, Nat.zero_le _, .inr ⟨rfl, hx⟩⟩
  · simp only [Value.slice.injEq] at he
    obtain ⟨rfl, _, rfl⟩ := he
    exact ⟨h1, h2, .inl ⟨g, rfl⟩⟩
theorem OwnAt.inl {e size k cap : Nat} {a : Option Addr} {xs : List Value} (h : OwnAt a k cap xs) (p : Pick l (own e size (.slice a k cap) k xs) r) : InL l a k cap xs :=
  ⟨h.le, h.most, h.at_.elim (fun ⟨g, e⟩ => .inl ⟨g, 0, e, fun m => by subst e; exact RdN.own (Pick.app m p)⟩) .inr⟩
theorem InL.ofRow {b e k : Nat} {cs : List Value} (p : Pick l (row b e cs) r) (h : k ≤ maxLen) : InL l (some ⟨b, 0, none⟩) k k cs := ⟨Nat.le_refl _, h, .inl ⟨b, 0, rfl, fun m => RdN.rowAll (Pick.app m p)⟩⟩
theorem yielded_none {ops : Array Oper} {a : Act} (hf : Frm n ds env a) {j t : Nat} (hd : (ops[j]?).bind (·.dst) = some t) (hv : look env t = some undef) : yielded ops a.tmps j = none := by
  simp [yielded, hd, hf.slot t _ hv, undef]
/-- The guard's own operation was passed over. -/
theorem JL.gskipU {ops : Array Oper} {rest : List Oper} {Q : Exit → Act → World → Prop} {j t : Nat} {b : Bool} (hg : o.guard = some (j, b)) (hgd : (ops[j]?).bind (·.dst) = some t) (hgv : look env t = some undef)
    (hd : o.dst = some d) (hn : Nat.blt d n = true)
    (h : JL P E ρ n ds ops Q rest ((d, undef) :: env) l) : JL P E ρ n ds ops Q (o :: rest) env l := fun a w hf hs => by
  refine wpListIn_step fun K hK => ?_
  rw [if_neg (by simp [Region.wanted, hg, yielded_none hf hgd hgv])]
  exact ⟨fun _ _ => trivial, hK _ _ (h _ w (by rw [hd]; exact hf.put _ hn) hs)⟩
/-- What a list says. -/
theorem J.fact {c : Code} {Q : Exit → Act → World → Prop} {p : Prop} (hp : ∀ w, Sat E (stars l) w → p) (h : p → J P E ρ n ds c Q env l) : J P E ρ n ds c Q env l := fun a w hf hs => h (hp w hs) a w hf hs
theorem Fc.on {f : FuncId} {args : Array Value} {R : Value → List HProp → Prop} {p q : List HProp} (hs : Split l p q) (h : Fc P E f args (p ++ q) R) : Fc P E f args l R := h.split hs
theorem J.pre {c : Code} {Q : Exit → Act → World → Prop} {l' : List HProp} (hl : ∀ w, Sat E (stars l) w → Sat E (stars l') w) (h : J P E ρ n ds c Q env l') : J P E ρ n ds c Q env l := fun a w hf hs => h a w hf (hl w hs)
theorem JL.pre {ops : Array Oper} {rest : List Oper} {Q : Exit → Act → World → Prop} {l' : List HProp} (hl : ∀ w, Sat E (stars l) w → Sat E (stars l') w) (h : JL P E ρ n ds ops Q rest env l') : JL P E ρ n ds ops Q rest env l := fun a w hf hs => h a w hf (hl w hs)
/-- append(x, y...): y is anybody's. -/
theorem l_appendIn (hT : Tok P T) {i j : TI} {e : TypeId} {zc : Value} {nn m c : Nat} {yp : Option Addr} {xs news : List Value} (hi : T.at t = some i) (hk : i.u = .slice e) (hj : T.at e = some j) (hz : j.zero = some zc) (hzs : zc.cells.size = j.size) (hsz : Nat.blt 0 j.size = true)
    (hx : val env x = some v) (hy : val env y = some (.slice yp m c)) (hp : Pick l (own e j.size v nn xs) r) (hin : InL l yp m c news) (hl : news.length = m * j.size) (h1 : ∀ u ∈ news, u.oneCell' = true)
    (hb : (nn + m) * j.bytes ≤ 140737488355328) (h63 : nn + m ≤ 9223372036854775807) (hn : Nat.blt d n = true)
    (h : ∀ a cap, nn + m ≤ cap → N ((d, .slice a (nn + m) cap) :: env) (own e j.size (.slice a (nn + m) cap) (nn + m) (xs ++ news) :: r)) :
    LS P E n ds ⟨some d, .call ⟨.builtin .append, #[x, y], #[t, t]⟩, ty, pos, af, gd⟩ env l N := by
  rcases hin.rd with ⟨b, o, rfl, hr⟩ | ⟨rfl, rfl⟩
  · exact l_append hT hi hk hj hz hzs hsz hx hy hp (hr []) hl h1 hb h63 hn h
  · have hm : m = 0 := by have := hin.le; omega
    subst hm
    refine LS.of hn rfl fun a w hf hs => ?_
    obtain ⟨a0, cap, rfl, hcap⟩ := hs.row_of_own hp
    refine ⟨.slice a0 nn cap, w, _, ?_, hs.pick hp, by simpa using h a0 cap (by omega)⟩
    have hu := (hT t i hi).1
    rw [hk] at hu
    have h2 := hT.siz w hj
    cases a0 <;> cases yp <;> simp [execOp, resolve, invoke, builtin, hf.eval hx, hf.eval hy, Builtin.append_, run_underlying hu, h2, Builtin.lenOf, Builtin.firstCells, loadCells, loadCellsFrom, storeCells, hcap]
end
end Go.SL
namespace Go.SL
open Go Go.RowKit Go.ChangeShapes Go.WideShapes

section
variable {H : Type} (enc : TypeId × Value → H) (P : Program)
/-- What reads, in the world of the call, as a datum of a kind that its parts inherit. -/
def Tr (ok : DataW H → Prop) (w : World) (t : TypeId) (cs : List Value) : Prop := ∃ fuel x, DataW.trod enc P w 0 (fun _ => true) true fuel t cs = some x ∧ ok x.1
end
structure Her {H : Type} (ok : DataW H → Prop) (L : Nat → Prop) : Prop where
  slice : ∀ es sp, ok (.slice es sp) → L es.length ∧ ∀ d ∈ es ++ sp, ok d
  nil : L 0
  agg : ∀ ps, ok (.agg ps) → ∀ d ∈ ps, ok d
  str : ∀ bs, ok (.lit (.string bs)) → L bs.length
theorem Her.all {H : Type} : Her (fun _ : DataW H => True) (fun _ => True) := ⟨fun _ _ _ => ⟨trivial, fun _ _ => trivial⟩, trivial, fun _ _ _ _ => trivial, fun _ _ => trivial⟩
/-- A slice in a world: n values whose cells are these. -/
structure InW (w : World) (p : Option Addr) (n cap : Nat) (cs : List Value) : Prop where
  le : n ≤ cap
  most : cap ≤ maxLen
  rd : (∃ b o, p = some ⟨b, o, none⟩ ∧ ∀ j v, cs[j]? = some v → w.cell? ⟨b, o + j, none⟩ = some v) ∨ (cap = 0 ∧ cs = [])
theorem InW.inl {w : World} {p : Option Addr} {n cap : Nat} {cs : List Value} (h : InW w p n cap cs) (l : List HProp) : InL (old w :: l) p n cap cs := InL.old h.le h.most h.rd

section
variable {H : Type} {enc : TypeId × Value → H} {P : Program} {w : World} {t e : TypeId} {ok : DataW H → Prop} {L : Nat → Prop}
theorem Tr.string {cs : List Value} (her : Her ok L) (ht : P.underlying t = some .string) (h : Tr enc P ok w t cs) : ∃ s : ByteArray, cs = [.string s] ∧ s.size ≤ maxLen ∧ L s.size := by
  obtain ⟨fuel, x, h, hok⟩ := h
  obtain ⟨s, h1, rfl, h3⟩ := DataW.trod_string ht h
  exact ⟨s, h1, h3, by simpa using her.str _ hok⟩
theorem cells?_get {base n : Nat} {a : Addr} {cs : List Value} (h : w.cells? base a n = some cs) : cs.length = n ∧ ∀ i v, cs[i]? = some v → w.cell? (a.add i) = some v := by
  unfold World.cells? at h
  split at h
  · have key : ∀ (l : List Nat) (cs : List Value), l.mapM (fun i => w.cell? (a.add i)) = some cs → cs.length = l.length ∧ ∀ (i : Nat) v, cs[i]? = some v → ∃ k, l[i]? = some k ∧ w.cell? (a.add k) = some v := by
      intro l
      induction l with
      | nil => intro cs h; simp at h; subst h; simp
      | cons x l ih =>
        intro cs h
        simp only [List.mapM_cons, Option.bind_eq_bind, Option.bind_eq_some_iff] at h
        obtain ⟨y, h1, ys, h2, h3⟩ := h
        cases h3
        obtain ⟨i1, i2⟩ := ih ys h2
        refine ⟨by simp [i1], fun i v hi => ?_⟩
        cases i with
        | zero => simp at hi; subst hi; exact ⟨x, rfl, h1⟩
        | succ i => exact i2 i v (by simpa using hi)
    obtain ⟨k1, k2⟩ := key _ _ h
    refine ⟨by simpa using k1, fun i v hi => ?_⟩
    obtain ⟨k, h1, h2⟩ := k2 i v hi
    obtain ⟨_, rfl⟩ := List.getElem?_eq_some_iff.1 h1
    simpa using h2
  · simp at h
/-- A slice whose elements each read as a datum. -/
theorem Tr.slice {α : Type} {encA : α → List Value} {okA : α → Prop} {k : Nat} {v : Value} (her : Her ok L) (ht : P.underlying t = some (.slice e)) (hc : P.cellsOf e = k) (hk : 0 < k)
    (hl : ∀ a, okA a → (encA a).length = k) (he : ∀ cs, Tr enc P ok w e cs → ∃ a, cs = encA a ∧ okA a) (h : Tr enc P ok w t [v]) :
    ∃ (p : Option Addr) (cap : Nat) (xs : List α), v = .slice p xs.length cap ∧ L xs.length ∧ (∀ a ∈ xs, okA a) ∧ InW w p xs.length cap (xs.flatMap encA) := by
  obtain ⟨fuel, x, h, hok⟩ := h
  rcases Go.Deep.open_slice ht h with ⟨h0, _⟩ | ⟨a, len, cap, m, n, D, Pl, h0, _, h1, h2, h3, hx, h4⟩
  · cases h0
    exact ⟨none, 0, [], rfl, her.nil, fun a ha => by (cases ha), Nat.le_refl _, Nat.zero_le _, .inr ⟨rfl, rfl⟩⟩
  · simp only [if_true] at h3
    subst h3
    rw [hc] at h4
    subst hx
    obtain ⟨hL, hD⟩ := her.slice _ _ hok
    have hD' : ∀ i, i < m → ok (D i) := fun i hi => by
      rcases Nat.lt_or_ge i len with hil | hil
      · exact hD _ (List.mem_append_left _ (List.mem_map.2 ⟨i, by simpa using hil, rfl⟩))
      · exact hD _ (List.mem_append_right _ (List.mem_map.2 ⟨i - len, by simp; omega, by rw [show len + (i - len) = i by omega]⟩))
    have hex : ∀ i, i < m → ∃ a', okA a' ∧ w.cells? 0 (a.add (i * k)) k = some (encA a') := fun i hi => by
      obtain ⟨cs', c1, c2⟩ := h4 i hi
      obtain ⟨a', rfl, ha'⟩ := he cs' ⟨n, _, c2, hD' i hi⟩
      exact ⟨a', ha', c1⟩
    have build : ∀ q, q ≤ m → ∃ xs : List α, xs.length = q ∧ (∀ a ∈ xs, okA a) ∧ ∀ i x, xs[i]? = some x → w.cells? 0 (a.add (i * k)) k = some (encA x) := by
      intro q
      induction q with
      | zero => exact fun _ => ⟨[], rfl, fun a ha => by (cases ha), fun i x hx => by (simp at hx)⟩
      | succ q ih =>
        intro hq
        obtain ⟨xs, x1, x2, x3⟩ := ih (by omega)
        obtain ⟨y, y1, y2⟩ := hex q (by omega)
        refine ⟨xs ++ [y], by simp [x1], fun a ha => ?_, fun i x hx => ?_⟩
        · rcases List.mem_append.1 ha with ha | ha
          · exact x2 a ha
          · simp at ha; subst ha; exact y1
        · rcases Nat.lt_or_ge i q with hi | hi
          · rw [List.getElem?_append_left (by omega)] at hx; exact x3 i x hx
          · rw [List.getElem?_append_right (by omega)] at hx
            have hiq : i - xs.length = 0 := by
              rcases Nat.eq_zero_or_pos (i - xs.length) with h | h
              · exact h
              · rw [List.getElem?_eq_none (by simp; omega)] at hx; cases hx
            have : i = q := by omega
            subst this
            rw [hiq] at hx
            simp at hx
            subst hx
            exact y2
    obtain ⟨xs, x1, x2, x3⟩ := build len h1
    cases h0
    refine ⟨some a, m, xs, by rw [x1], by rw [x1]; simpa using hL, x2, by omega, h2, ?_⟩
    rcases Nat.eq_zero_or_pos m with hm | hm
    · right
      refine ⟨hm, ?_⟩
      have : xs = [] := List.eq_nil_of_length_eq_zero (by omega)
      rw [this]; rfl
    · left
      obtain ⟨y, y1, y2⟩ := hex 0 hm
      obtain ⟨z1, z2⟩ := cells?_get y2
      obtain ⟨v0, hv0⟩ : ∃ v0, (encA y)[0]? = some v0 := ⟨_, List.getElem?_eq_getElem (by omega)⟩
      have hs := World.cell?_spot (z2 0 v0 hv0)
      have hs' : a.spot = none := by simpa [Addr.add] using hs
      obtain ⟨b, o, sp⟩ := a
      simp only at hs'
      subst hs'
      refine ⟨b, o, rfl, fun j v hj => ?_⟩
      have hkx : ∀ x ∈ xs, (encA x).length = k := fun x hx => hl x (x2 x hx)
      have hlen := seg_len hkx
      have hjl : j < xs.length * k := by
        rcases Nat.lt_or_ge j (xs.flatMap encA).length with h | h
        · omega
        · rw [List.getElem?_eq_none h] at hj; cases hj
      have hi : j / k < xs.length := by rw [Nat.div_lt_iff_lt_mul hk]; exact hjl
      obtain ⟨x, hx⟩ : ∃ x, xs[j / k]? = some x := ⟨_, List.getElem?_eq_getElem hi⟩
      have hg := seg_get (sp := []) hkx hx
      rw [List.append_nil] at hg
      have hm' : j % k < k := Nat.mod_lt _ hk
      have hd := Nat.div_add_mod j k
      have hj' : (encA x)[j % k]? = some v := by
        rw [← hg, List.getElem?_take_of_lt hm', List.getElem?_drop, Nat.mul_comm, hd]
        exact hj
      have := (cells?_get (x3 (j / k) x hx)).2 (j % k) v hj'
      rw [addr_add, addr_add] at this
      rw [show o + j = o + j / k * k + j % k by rw [Nat.mul_comm]; omega]
      exact this
end

section
variable {H : Type} {enc : TypeId × Value → H} {P : Program} {w : World} {t e : TypeId} {r : Reach} {base : Nat} {v : Value} {d : DataW H} {ps : List MemPlace} {ok : DataW H → Prop}
theorem Tr.ofSlice (ht : P.underlying t = some (.slice e)) (h : Value.okWide P w r base t v) (hd : DataW.Trod enc P w 0 (fun _ => true) true t v d ps) (hok : ok d) : Tr enc P ok w t [v] := by
  obtain ⟨fuel, hd⟩ := hd
  have : v.cells.toList = [v] := by
    simp only [Value.okWide, ht, Cell.okWide] at h
    cases v <;> first | rfl | simp [Cell.ok, ht] at h
  rw [this] at hd
  exact ⟨fuel, _, hd, hok⟩
theorem Tr.ofString (ht : P.underlying t = some .string) (h : Value.okWide P w r base t v) (hd : DataW.Trod enc P w 0 (fun _ => true) true t v d ps) (hok : ok d) : Tr enc P ok w t [v] := by
  obtain ⟨fuel, hd⟩ := hd
  have : v.cells.toList = [v] := by
    simp only [Value.okWide, ht, Cell.okWide] at h
    cases v <;> first | rfl | simp [Cell.ok, ht] at h
  rw [this] at hd
  exact ⟨fuel, _, hd, hok⟩
end

theorem Sat.start (w : World) : Sat w (stars [old w]) w :=
  ⟨rfl, rfl, rfl, fun k => w.heap[k]?, fun _ _ h => h, fun k => w.heap[k]?, Hp.empty, fun _ => .inr rfl, (un_empty_right _).symm, fun _ => rfl, rfl⟩
theorem Sat.below {w w' : World} {l : List HProp} (s : Sat w (stars (old w :: l)) w') : Below w.heap.size w w' := by
  have hb : ∀ k, k < w.heap.size → w'.heap[k]? = w.heap[k]? := fun k hk => by
    have h1 : w.heap[k]? = some w.heap[k] := Array.getElem?_eq_getElem hk
    rw [h1]
    exact s.elder h1
  refine ⟨s.os, s.tape, s.output, ?_, hb⟩
  rcases Nat.eq_zero_or_pos w.heap.size with h | h
  · omega
  · have h1 := hb (w.heap.size - 1) (by omega)
    rw [Array.getElem?_eq_getElem (show w.heap.size - 1 < w.heap.size by omega)] at h1
    have := (Array.getElem?_eq_some_iff.1 h1).1
    omega
section
variable {H : Type} {enc : TypeId × Value → H} {P : Program}
theorem below_trodAll (hl : laidOutB P = true) {W W' : World} (hb : Below W.heap.size W W') : ∀ {ts : List TypeId} {vs : List Value} {ds : List (DataW H)} {ps : List MemPlace},
    (∀ t ∈ ts, P.readableRec t = true ∧ t < P.types.size) → DataW.TrodAll enc P W 0 (fun _ => true) true ts vs ds ps → (∀ x ∈ ps, x.block < W.heap.size) →
    DataW.TrodAll enc P W' 0 (fun b => decide (b < W.heap.size)) true ts vs ds ps
  | [], vs, ds, ps, _, h, _ => by
    obtain ⟨rfl, rfl, rfl⟩ := trodAll_nil h
    exact trodAll_mk0
  | t :: ts, vs, ds, ps, hr, h, hlt => by
    obtain ⟨v, vs', d, ds', p, q, rfl, rfl, rfl, h1, h2⟩ := trodAll_cons h
    refine ⟨p, q, ?_, below_trodAll hl hb (fun t' ht' => hr t' (by simp [ht'])) h2 (fun x hx => hlt x (by simp [hx])), rfl⟩
    exact Below.trod hl (hr t (by simp)).1 (hr t (by simp)).2 h1 hb (fun x hx => hlt x (by simp [hx]))
/-- What a law's row asks behind its call. -/
theorem law_post {f : Func} {s : ChangeSpec} {W W' : World} {args : Array Value} {ds : List (DataW H)} {before : List MemPlace} {tb : TypeId} (hl : laidOutB P = true) (hvars : s.vars = []) (hrt : f.resultTypes = #[tb]) (htb : P.underlying tb = some .bool)
    (hread : ∀ t ∈ f.params.toList, P.readableRec t = true ∧ t < P.types.size) (hW : DataW.Whole enc P f.params.toList s.vars false W args.toList ds [] before)
    (hres : (s.fn H (ds ++ [])).results = [.lit (.bool true)]) (hargs : (s.fn H (ds ++ [])).args = ds) (hvs : (s.fn H (ds ++ [])).vars = []) (hb : Below W.heap.size W W') : s.post enc P f false true false false W args (.bool true) W' := by
  have hlt := hW.lt
  obtain ⟨p, q, hA, hV, rfl, hfz, hnd⟩ := hW
  rw [hvars] at hV
  obtain ⟨_, rfl⟩ := trodVars_none hV
  refine ⟨ds, [], p ++ [], [], p, [], ⟨p, [], hA, by rw [hvars]; exact hV, rfl, hfz, hnd⟩, ?_, ?_, ?_, hb.frame _, fun h => by cases h⟩
  · rw [hres, hrt]
    refine trodAll_mk1 ⟨1, ?_⟩
    simp [DataW.trod, htb, Value.cells]
  · rw [hargs]
    exact below_trodAll hl hb hread hA (fun x hx => hlt x (by simpa using hx))
  · rw [hvars, hvs]
    rfl
end
end Go.SL
namespace Go.SL
open Go Go.RowKit
section
variable {P : Program} {E : World} {n : Nat} {ds : List Deferred} {env : Fr} {l r : List HProp} {T : Tab} {N : Fr → List HProp → Prop}
variable {dst : Option Tmp} {ty : TypeId} {pos : String} {af : Array Edge} {gd : Option (Nat × Bool)} {x y z : Operand} {v : Value} {t t' : TypeId} {o : Oper}
theorem ones_of {vs : List Value} (h : vs.all (·.oneCell') = true) : ∀ v ∈ vs, v.oneCell' = true := List.all_eq_true.1 h
theorem Rd1.elem {b off i : Nat} {xs : List Value} {v : Value} (h : RdN l b off xs) (hx : xs[i]? = some v) : Rd1 l b (off + i * 1) v := by rw [Nat.mul_one]; exact h i v hx
theorem Sat.dropApp {w : World} (m : List HProp) (s : Sat E (stars (m ++ l)) w) : Sat E (stars l) w := by
  induction m with
  | nil => exact s
  | cons A m ih => exact ih s.drop
theorem RdN.app {b off : Nat} {xs : List Value} (h : RdN l b off xs) (m : List HProp) : RdN (m ++ l) b off xs := fun j v hj E w s => h j v hj E w (s.dropApp m)
theorem RdN.cons {b off : Nat} {xs : List Value} (h : RdN l b off xs) (A : HProp) : RdN (A :: l) b off xs := h.app [A]
theorem y_eqlB {k : IntKind} {i j : Int} {b : Bool} (hx : val env x = some (.int k i)) (hy : val env y = some (.int k j)) (hb : decide (i = j) = b) : Y P E n ds ⟨dst, .binOp .eql t x y t', ty, pos, af, gd⟩ env l (.bool b) := hb ▸ y_eql hx hy
theorem y_neqB {k : IntKind} {i j : Int} {b : Bool} (hx : val env x = some (.int k i)) (hy : val env y = some (.int k j)) (hb : decide (¬ i = j) = b) : Y P E n ds ⟨dst, .binOp .neq t x y t', ty, pos, af, gd⟩ env l (.bool b) := hb ▸ y_neq hx hy
theorem y_bool_neB (hT : Tok P T) {d : TI} (hd : T.at t = some d) (hk : d.u = .bool) {b c e : Bool} (hx : val env x = some (.bool b)) (hy : val env y = some (.bool c)) (hb : (b != c) = e) : Y P E n ds ⟨dst, .binOp .neq t x y t', ty, pos, af, gd⟩ env l (.bool e) := hb ▸ y_bool_ne hT hd hk hx hy
theorem Sup.app {g p : List HProp} (h : Sup l p) : Sup (g ++ l) (g ++ p) := by
  induction g with
  | nil => exact h
  | cons A g ih => exact Sup.cons Pick.head ih
theorem Split.all {g : List HProp} : Split (g ++ r) g r := by
  induction g with
  | nil => exact Split.nil
  | cons A g ih => exact Split.cons Pick.head ih
theorem Sup.skips {g p : List HProp} (h : Sup l p) : Sup (g ++ l) p := by
  induction g with
  | nil => exact h
  | cons A g ih => exact Sup.skip ih
end
end Go.SL
namespace Go.SL
open Go Go.RowKit
section
variable {P : Program} {E : World} {n : Nat} {ds : List Deferred} {env : Fr} {l r : List HProp} {T : Tab} {N : Fr → List HProp → Prop}
variable {d : Tmp} {dst : Option Tmp} {ty : TypeId} {pos : String} {af : Array Edge} {gd : Option (Nat × Bool)} {x y z : Operand} {v : Value} {t t' : TypeId} {o : Oper}
theorem y_lssB {k : IntKind} {i j : Int} {b : Bool} (hx : val env x = some (.int k i)) (hy : val env y = some (.int k j)) (hb : decide (i < j) = b) : Y P E n ds ⟨dst, .binOp .lss t x y t', ty, pos, af, gd⟩ env l (.bool b) := hb ▸ y_lss hx hy
theorem y_slice_arr (hT : Tok P T) {q e' : TI} {e : TypeId} {b off len lo hi : Nat} (hd : T.at t = some q) (hk : q.u = .array len e) (he : T.at e = some e')
    {ol oh : Option Operand} (hx : val env x = some (.pointer (some ⟨b, off, none⟩)))
    (hol : (ol = none ∧ lo = 0) ∨ ∃ o kl il, ol = some o ∧ val env o = some (.int kl il) ∧ il = (lo : Int))
    (hoh : (oh = none ∧ hi = len) ∨ ∃ o kh ih, oh = some o ∧ val env o = some (.int kh ih) ∧ ih = (hi : Int))
    (h1 : lo ≤ hi) (h2 : hi ≤ len) :
    Y P E n ds ⟨dst, .slice t x ol oh none, ty, pos, af, gd⟩ env l (.slice (some ⟨b, if len = lo then off else off + lo * e'.size, none⟩) (hi - lo) (len - lo)) :=
  Y.of fun a w hfr _ => by
    have g1 := hT.und w hd
    rw [hk] at g1
    have g3 := hT.siz w he
    have hb : (Instr.sliceBounds false len len (ol.map a.eval) (oh.map a.eval) none).run P w = .ok (lo, hi, len) w := by
      unfold Instr.sliceBounds
      rcases hol with ⟨rfl, rfl⟩ | ⟨o, kl, il, rfl, ho, rfl⟩ <;> rcases hoh with ⟨rfl, rfl⟩ | ⟨o', kh, ih, rfl, ho', rfl⟩
      · simp
      · simp [Instr.sliceBound, hfr.eval ho', asIntOf, h2]
      · simp [Instr.sliceBound, hfr.eval ho, asIntOf, h1]
      · simp [Instr.sliceBound, hfr.eval ho, hfr.eval ho', asIntOf, h1, h2]
    by_cases hc : len = lo
    · subst hc
      simp [execOp, hfr.eval hx, Instr.sliceAt, g1, hb, g3, Instr.sureAddr]
    · simp [execOp, hfr.eval hx, Instr.sliceAt, g1, hb, g3, hc, addr_add, Instr.sureAddr]
theorem l_range (hT : Tok P T) {i : TI} {s : ByteArray} (hi : T.at t = some i) (hk : i.u = .string) (hx : val env x = some (.string s)) (hn : Nat.blt d n = true)
    (h : ∀ b, N ((d, .pointer (some ⟨b, 0, none⟩)) :: env) (blk b (.stringIter s 0) :: l)) : LS P E n ds ⟨some d, .range t x, ty, pos, af, gd⟩ env l N :=
  LS.of hn rfl fun a w hf hs => by
    obtain ⟨hu, _⟩ := hT t i hi
    rw [hk] at hu
    refine ⟨_, w.alloc (.stringIter s 0), _, ?_, hs.alloc _, h w.heap.size⟩
    have hr := run_range_string (P := P) w t s hu
    simp only [execOp]
    rw [hf.eval hx]
    simp [hr, World.iter]
end
theorem wrap_u8 (x : Int) : IntKind.u8.wrap x = x % 256 := by simp [IntKind.wrap, IntKind.bits, IntKind.signed]
section
variable {P : Program} {E : World} {n : Nat} {ds : List Deferred} {env : Fr} {l r : List HProp} {T : Tab} {N : Fr → List HProp → Prop}
variable {d : Tmp} {dst : Option Tmp} {ty : TypeId} {pos : String} {af : Array Edge} {gd : Option (Nat × Bool)} {x y z : Operand} {v : Value} {t t' : TypeId} {o : Oper}
end
/-! ### Words of 64 bits -/
def Q (x : BitVec 64) : Value := .int .u64 x.toNat
section
variable {P : Program} {E : World} {n : Nat} {ds : List Deferred} {env : Fr} {l r : List HProp} {T : Tab} {N : Fr → List HProp → Prop}
variable {d : Tmp} {dst : Option Tmp} {ty : TypeId} {pos : String} {af : Array Edge} {gd : Option (Nat × Bool)} {x y z : Operand} {v : Value} {t t' : TypeId} {o : Oper}
end
section
variable {l r : List HProp}
end
section
variable {l r : List HProp}
/-- A piece of a slice. -/
theorem InL.part {p : Option Addr} {n cap lo hi k : Nat} {cs : List Value} (h : InL l p n cap cs) (h1 : lo ≤ hi) (h2 : hi ≤ n) (hl : cs.length = n * k) :
    ∃ b off, (p = some ⟨b, off, none⟩ ∨ cap = 0) ∧ InL l (if cap = lo then p else some ⟨b, off + lo * k, none⟩) (hi - lo) (cap - lo) ((cs.drop (lo * k)).take ((hi - lo) * k)) := by
  have hle := h.le
  have hm := h.most
  rcases h.rd with ⟨b, o, rfl, hr⟩ | ⟨h0, hcs⟩
  · refine ⟨b, o, .inl rfl, by omega, by omega, ?_⟩
    by_cases hc : cap = lo
    · subst hc
      rw [if_pos rfl]
      have : hi - cap = 0 := by omega
      rw [this]
      exact .inl ⟨b, o, rfl, fun m => by simpa using RdN.nil⟩
    · rw [if_neg hc]
      exact .inl ⟨b, o + lo * k, rfl, fun m => (hr m).sub (lo * k) ((hi - lo) * k) rfl⟩
  · subst h0
    obtain rfl : lo = 0 := by omega
    obtain rfl : hi = 0 := by omega
    subst hcs
    exact ⟨0, 0, .inr rfl, Nat.le_refl _, Nat.zero_le _, .inr ⟨rfl, by simp⟩⟩
end
end Go.SL
namespace Go.SL
open Go Go.RowKit
/-- Bytes as a text. -/
def strOf (xs : List Int) : ByteArray := xs.foldl (fun r n => r.push (UInt8.ofNat n.toNat)) ByteArray.empty
theorem strOf_from (xs : List Int) : ∀ s : ByteArray, (xs.foldl (fun r n => r.push (UInt8.ofNat n.toNat)) s).data.toList = s.data.toList ++ xs.map (fun n => UInt8.ofNat n.toNat) := by
  induction xs with
  | nil => intro s; simp
  | cons x xs ih =>
    intro s
    rw [List.foldl_cons, ih, ByteArray.data_push]
    simp
theorem strOf_data (xs : List Int) : (strOf xs).data.toList = xs.map (fun n => UInt8.ofNat n.toNat) := by
  have := strOf_from xs ByteArray.empty
  simpa [strOf] using this
theorem strOf_inj {xs ys : List Int} (hx : ∀ x ∈ xs, 0 ≤ x ∧ x ≤ 255) (hy : ∀ x ∈ ys, 0 ≤ x ∧ x ≤ 255) (h : strOf xs = strOf ys) : xs = ys := by
  have e : xs.map (fun n => UInt8.ofNat n.toNat) = ys.map (fun n => UInt8.ofNat n.toNat) := by rw [← strOf_data, ← strOf_data, h]
  have back : ∀ zs : List Int, (∀ x ∈ zs, 0 ≤ x ∧ x ≤ 255) → (zs.map (fun n => UInt8.ofNat n.toNat)).map (fun u => (u.toNat : Int)) = zs := by
    intro zs hz
    rw [List.map_map]
    conv => rhs; rw [← List.map_id zs]
    refine List.map_congr_left fun z hm => ?_
    have := hz z hm
    simp only [Function.comp, UInt8.toNat_ofNat', id]
    omega
  rw [← back xs hx, e, back ys hy]
theorem bytes_beq (s u : ByteArray) : (s.toList == u.toList) = decide (s = u) := by
  rw [Bool.eq_iff_iff, beq_iff_eq, decide_eq_true_iff, ByteArray.toList_eq, ByteArray.toList_eq]
  constructor
  · intro h
    exact ByteArray.ext (Array.ext' h)
  · rintro rfl
    rfl
section
variable {P : Program} {E : World} {n : Nat} {ds : List Deferred} {env : Fr} {l r : List HProp} {T : Tab}
variable {dst : Option Tmp} {ty : TypeId} {pos : String} {af : Array Edge} {gd : Option (Nat × Bool)} {x y z : Operand} {v : Value} {t t' : TypeId} {o : Oper}
theorem y_convString (hT : Tok P T) {i j d : TI} {e : TypeId} {xs : List Int} {b off c k : Nat} (hi : T.at t = some i) (hk : i.u = .slice e) (hj : T.at e = some j) (hjk : j.u = .int .u8) (hd : T.at t' = some d) (hdk : d.u = .string)
    (hx : val env x = some (.slice (some ⟨b, off, none⟩) k c)) (hr : RdN l b off (xs.map (Value.int .u8))) (hl : xs.length = k) :
    Y P E n ds ⟨dst, .convert t t' x, ty, pos, af, gd⟩ env l (.string (strOf xs)) :=
  Y.of fun a w hfr hs => by
    have g1 := (hT t i hi).1
    rw [hk] at g1
    have g2 := (hT e j hj).1
    rw [hjk] at g2
    have g3 := (hT t' d hd).1
    rw [hdk] at g3
    have g4 := run_loadCells_list (P := P) (w := w) ⟨b, off, none⟩ _ (hr.cells hs)
    rw [List.length_map, hl] at g4
    have g5 := run_convert_bytes_string (P := P) w t t' e (some ⟨b, off, none⟩) k c g1 g2 g3
    rw [run_bytesToString w _ k c xs g4] at g5
    simp only [execOp, hfr.eval hx]
    simp [g5, strOf]
theorem y_leqB {k : IntKind} {i j : Int} {b : Bool} (hx : val env x = some (.int k i)) (hy : val env y = some (.int k j)) (hb : decide (i ≤ j) = b) : Y P E n ds ⟨dst, .binOp .leq t x y t', ty, pos, af, gd⟩ env l (.bool b) := hb ▸ y_leq hx hy
theorem y_str_eq {s u : ByteArray} (hx : val env x = some (.string s)) (hy : val env y = some (.string u)) : Y P E n ds ⟨dst, .binOp .eql t x y t', ty, pos, af, gd⟩ env l (.bool (decide (s = u))) :=
  Y.of fun a w hf _ => by (rw [← bytes_beq]; simp only [execOp, hf.eval hx, hf.eval hy]; simp [go_sem])
theorem y_str_eqB {s u : ByteArray} {b : Bool} (hx : val env x = some (.string s)) (hy : val env y = some (.string u)) (hb : decide (s = u) = b) : Y P E n ds ⟨dst, .binOp .eql t x y t', ty, pos, af, gd⟩ env l (.bool b) := hb ▸ y_str_eq hx hy
theorem y_str_ne {s u : ByteArray} (hx : val env x = some (.string s)) (hy : val env y = some (.string u)) : Y P E n ds ⟨dst, .binOp .neq t x y t', ty, pos, af, gd⟩ env l (.bool (decide (s ≠ u))) :=
  Y.of fun a w hf _ => by (rw [decide_not, ← bytes_beq]; simp only [execOp, hf.eval hx, hf.eval hy]; simp [go_sem])
theorem y_ptr_ne_same (hT : Tok P T) {i j : TI} {e : TypeId} {p : Addr} (hi : T.at t = some i) (hk : i.u = .pointer e) (hj : T.at e = some j) (hx : val env x = some (.pointer (some p))) (hy : val env y = some (.pointer (some p))) :
    Y P E n ds ⟨dst, .binOp .neq t x y t', ty, pos, af, gd⟩ env l (.bool false) :=
  Y.of fun a w hf _ => by
    have hu := (hT t i hi).1
    rw [hk] at hu
    obtain ⟨_, q, hq, _⟩ := hT e j hj
    simp only [execOp, hf.eval hx, hf.eval hy]
    have hr := Go.Lib.run_neq_ptr_same (P := P) w p hu hq
    simp [eqGuard_at_pointer, hr]
end
end Go.SL
namespace Go.SL
open Go Go.RowKit
section
variable {P : Program} {E : World} {n : Nat} {ds : List Deferred} {env : Fr} {l r : List HProp} {T : Tab} {N : Fr → List HProp → Prop}
variable {d : Tmp} {dst : Option Tmp} {ty : TypeId} {pos : String} {af : Array Edge} {gd : Option (Nat × Bool)} {x y z : Operand} {v : Value} {t t' : TypeId} {o : Oper}
/-- Bytes as a text, wherever they lie. -/
theorem y_convStringL (hT : Tok P T) {i j q : TI} {e : TypeId} {xs : List Int} {p : Option Addr} {c k : Nat} (hi : T.at t = some i) (hk : i.u = .slice e) (hj : T.at e = some j) (hjk : j.u = .int .u8) (hd : T.at t' = some q) (hdk : q.u = .string)
    (hx : val env x = some (.slice p k c)) (hr : InL l p k c (xs.map (Value.int .u8))) (hl : xs.length = k) :
    Y P E n ds ⟨dst, .convert t t' x, ty, pos, af, gd⟩ env l (.string (strOf xs)) := by
  rcases hr.rd with ⟨b, o, rfl, hr2⟩ | ⟨hc, hxs⟩
  · exact y_convString hT hi hk hj hjk hd hdk hx (hr2 []) hl
  · have hx0 : xs = [] := by simpa using hxs
    have hk0 : k = 0 := by have := hr.le; omega
    subst hx0 hk0
    cases p with
    | none =>
      exact Y.of fun a w hfr hs => by
        have g1 := (hT t i hi).1
        rw [hk] at g1
        have g2 := (hT e j hj).1
        rw [hjk] at g2
        have g3 := (hT t' q hd).1
        rw [hdk] at g3
        have g5 := run_convert_bytes_string (P := P) w t t' e none 0 c g1 g2 g3
        simp only [execOp, hfr.eval hx]
        simp [g5, strOf, Conv.bytesToString]
    | some b =>
      exact Y.of fun a w hfr hs => by
        have g1 := (hT t i hi).1
        rw [hk] at g1
        have g2 := (hT e j hj).1
        rw [hjk] at g2
        have g3 := (hT t' q hd).1
        rw [hdk] at g3
        have g5 := run_convert_bytes_string (P := P) w t t' e (some b) 0 c g1 g2 g3
        rw [run_bytesToString w _ 0 c [] (by simp [loadCells, loadCellsFrom])] at g5
        simp only [execOp, hfr.eval hx]
        simp [g5, strOf]
end
section
variable {P : Program} {E : World} {ρ : Option Nat} {n : Nat} {ds : List Deferred} {env : Fr} {l : List HProp} {c : Code} {Q : Exit → Act → World → Prop}
theorem J.scope (h : J P E none n ds c (Exit.noGoto Q) env l) : J P E none n ds (.scope c) Q env l := fun a w hf hs => (wpIn_wide (n := 0)).2 (wp_scope_straight ((wpIn_wide (n := 0)).1 (h a w hf hs)))
theorem J.label {i : Nat} (h : JE E n ds Q .normal env l) : J P E ρ n ds (.label i) Q env l := fun a w hf hs => wpIn_label (h a w hf hs)
theorem JE.scope_ret (h : JE E n ds Q .ret env l) : JE E n ds (Exit.noGoto Q) .ret env l := h
end
theorem Sat.only {E w : World} {A : HProp} {l : List HProp} (s : Sat E (stars (A :: l)) w) : Sat E (stars [A]) w :=
  ⟨s.os, s.tape, s.output, by
    obtain ⟨h, hs, h1, h2, d, rfl, a, _⟩ := s.heap
    refine ⟨h1, fun k o e => hs k o (by simp [Hp.un, e]), h1, Hp.empty, fun _ => .inr rfl, ?_, a, rfl⟩
    funext k
    simp only [Hp.un, Hp.empty]
    cases h1 k <;> rfl⟩
theorem Sat.rot {E w : World} {p g r : List HProp} (s : Sat E (stars (p ++ (g ++ r))) w) : Sat E (stars (g ++ (p ++ r))) w := s.imp fun h q => by
  have q1 := (stars_append p (g ++ r) h).1 q
  have q2 := star_mono (fun _ a => a) (fun h' b => (stars_append g r h').1 b) q1
  have q3 := star_swap q2
  exact (stars_append g (p ++ r) h).2 (star_mono (fun _ a => a) (fun h' b => (stars_append p r h').2 b) q3)
/-- What is read of one thing is read wherever that thing is. -/
theorem InL.kept {K : HProp} {p : Option Addr} {n c : Nat} {cs : List Value} (h : InL [K] p n c cs) {l r : List HProp} (hp : Pick l K r) : InL l p n c cs :=
  ⟨h.le, h.most, h.rd.imp (fun ⟨b, o, e, hr⟩ => ⟨b, o, e, fun m j v hj E w s => hr [] j v hj E w (s.pick (Pick.app m hp)).only⟩) id⟩
section
variable {P : Program} {E : World} {ρ : Option Nat} {n : Nat} {ds : List Deferred} {env : Fr} {l : List HProp} {α : Type} {F : α → List HProp} {ops : Array Oper} {rest : List Oper}
end
end Go.SL
namespace Go.SL
open Go Go.RowKit
section
variable {P : Program} {E : World} {ρ : Option Nat} {n : Nat} {ds : List Deferred} {env : Fr} {l : List HProp}
/-- What is reached on several ways is walked once. -/
theorem J.seqK {x y : Code} {Q : Exit → Act → World → Prop} {α : Type} (I : α → Prop) (S : α → Fr) (L : α → List HProp) (h2 : ∀ s, I s → J P E ρ n ds y Q (S s) (L s))
    (h1 : (∀ s, I s → J P E ρ n ds y Q (S s) (L s)) → J P E ρ n ds x (Exit.then (y.wpIn (Fw ρ) 0 P Q) Q) env l) : J P E ρ n ds (.seq x y) Q env l := J.seq (h1 h2)
theorem J.closeK {y : Code} {Q : Exit → Act → World → Prop} {α : Type} {I : α → Prop} {S : α → Fr} {L : α → List HProp} (hk : ∀ s, I s → J P E ρ n ds y Q (S s) (L s)) (s : α) (hI : I s) (he : sub (S s) env) (hl : ∀ w, Sat E (stars l) w → Sat E (stars (L s)) w) : J P E ρ n ds y Q env l := (hk s hI).weak he hl
end
section
variable {P : Program} {E : World} {n : Nat} {ds : List Deferred} {env : Fr} {l : List HProp} {T : Tab}
variable {dst : Option Tmp} {ty : TypeId} {pos : String} {af : Array Edge} {gd : Option (Nat × Bool)} {x o : Operand} {t : TypeId}
/-- A slice's beginning. -/
theorem y_cutTo (hT : Tok P T) {d e' : TI} {e : TypeId} {len cap m : Nat} {p : Option Addr} {kh : IntKind} {ih : Int} {l0 : List HProp} {cs : List Value} (hd : T.at t = some d) (hk : d.u = .slice e) (he : T.at e = some e')
    (hx : val env x = some (.slice p len cap)) (ho : val env o = some (.int kh ih)) (hm : ih = (m : Int)) (hle : m ≤ len) (hin : InL l0 p len cap cs) :
    Y P E n ds ⟨dst, .slice t x none (some o) none, ty, pos, af, gd⟩ env l (.slice p m cap) := by
  have hc := hin.le
  rcases hin.rd with ⟨b, off, rfl, _⟩ | ⟨rfl, _⟩
  · have q := y_slice (P := P) (E := E) (n := n) (ds := ds) (env := env) (l := l) (dst := dst) (ty := ty) (pos := pos) (af := af) (gd := gd) (b := b) (off := off) (lo := 0) (hi := m) (len := len) (cap := cap) (p := some ⟨b, off, none⟩) hT hd hk he hx (.inl ⟨rfl, rfl⟩) (.inr ⟨o, kh, ih, rfl, ho, hm⟩) (Nat.zero_le _) (by omega) hc (.inl rfl)
    have e : (if cap = 0 then some (⟨b, off, none⟩ : Addr) else some ⟨b, off + 0 * e'.size, none⟩) = some ⟨b, off, none⟩ := by simp
    rwa [e] at q
  · have q := y_slice (P := P) (E := E) (n := n) (ds := ds) (env := env) (l := l) (dst := dst) (ty := ty) (pos := pos) (af := af) (gd := gd) (b := 0) (off := 0) (lo := 0) (hi := m) (len := len) (cap := 0) (p := p) hT hd hk he hx (.inl ⟨rfl, rfl⟩) (.inr ⟨o, kh, ih, rfl, ho, hm⟩) (Nat.zero_le _) (by omega) hc (.inr rfl)
    rwa [if_pos rfl] at q
theorem InL.cutTo {p : Option Addr} {k cap : Nat} {cs : List Value} (h : InL l p k cap cs) (m j : Nat) (hm : m ≤ k) : InL l p m cap (cs.take j) :=
  ⟨Nat.le_trans hm h.le, h.most, h.rd.imp (fun ⟨b, o, e, hr⟩ => ⟨b, o, e, fun mm i v hi => hr mm i v (by
    rw [List.getElem?_take] at hi
    split at hi
    · exact hi
    · cases hi)⟩) (fun ⟨h0, hc⟩ => ⟨h0, by rw [hc]; simp⟩)⟩
end
section
variable {P : Program} {E : World} {ρ : Option Nat} {n : Nat} {ds : List Deferred} {env : Fr} {l r : List HProp}
end
section
variable {P : Program} {E : World} {n : Nat} {ds : List Deferred} {env : Fr} {l : List HProp} {T : Tab}
variable {dst : Option Tmp} {ty : TypeId} {pos : String} {af : Array Edge} {gd : Option (Nat × Bool)} {x y : Operand} {t t' : TypeId}
end
end Go.SL
namespace Go.SL
open Go Go.RowKit
section
variable {P : Program} {E : World} {n : Nat} {ds : List Deferred} {env : Fr} {l : List HProp} {N : Fr → List HProp → Prop}
variable {d : Tmp} {ty : TypeId} {pos : String} {af : Array Edge} {gd : Option (Nat × Bool)} {t : TypeId}
theorem l_makeMap (hn : Nat.blt d n = true) (h : ∀ b, N ((d, .map (some b)) :: env) (blk b (.map #[] 0) :: l)) : LS P E n ds ⟨some d, .makeMap t none, ty, pos, af, gd⟩ env l N :=
  LS.of hn rfl fun _ w _ hs => by
    refine ⟨_, w.alloc (.map #[] 0), _, ?_, hs.alloc _, h w.heap.size⟩
    simp [execOp, run_makeMap]
end
/-! Maps: rows of keys and values, in the order in which they came. -/
section
variable {α : Type} [DecidableEq α]
def mlook : List (α × Value) → α → Option Value
  | [], _ => none
  | (b, v) :: r, a => if a = b then some v else mlook r a
def mput : List (α × Value) → α → Value → List (α × Value)
  | [], a, v => [(a, v)]
  | (b, u) :: r, a, v => if a = b then (a, v) :: r else (b, u) :: mput r a v
def mdel : List (α × Value) → α → List (α × Value)
  | [], _ => []
  | (b, u) :: r, a => if a = b then r else (b, u) :: mdel r a
def mfind : List (α × Value) → α → Nat → Option (Nat × Value)
  | [], _, _ => none
  | (b, v) :: r, a, i => if a = b then some (i, v) else mfind r a (i + 1)
theorem mfind_look (l : List (α × Value)) (a : α) : ∀ i, (mfind l a i).map (·.2) = mlook l a := by
  induction l with
  | nil => intro i; rfl
  | cons p r ih =>
    intro i
    obtain ⟨b, v⟩ := p
    simp only [mfind, mlook]
    split
    · rfl
    · exact ih (i + 1)
/-- What a kind of keys has to keep. -/
structure KeyOk (P : Program) (kt : TypeId) (enc : α → Value) (ok : α → Prop) : Prop where
  chk : ∀ w em a, ok a → (Instr.checkKey em 10000 kt (enc a)).run P w = .ok () w
  now : ∃ kd, P.underlying kt = some kd ∧ ((∀ a b, ok a → ok b → Instr.sameNow kd (enc a) (enc b) = some (decide (a = b))) ∨
    ((∀ a b, ok a → ok b → Instr.sameNow kd (enc a) (enc b) = none) ∧ ∀ w a b, ok a → ok b → (Op.equal kt (enc a) (enc b)).run P w = .ok (decide (a = b)) w))
  same : ∀ a, ok a → Instr.sameBits 10000 (enc a) (enc a) = true
variable {P : Program} {kt : TypeId} {enc : α → Value} {ok : α → Prop}
theorem KeyOk.run (K : KeyOk P kt enc ok) (w : World) {a : α} (ha : ok a) (es : List MapEntry) (l : List (α × Value)) (he : es.map (fun e => (e.key, e.val)) = l.map (fun p => (enc p.1, p.2))) (hl : ∀ p ∈ l, ok p.1) :
    (Instr.findKey kt (enc a) es).run P w = .ok (mfind l a 0) w := by
  obtain ⟨kd, hk, hor⟩ := K.now
  rcases hor with hnow | ⟨hnow, heq⟩
  · have h : ∀ (es : List MapEntry) (l : List (α × Value)) (i : Nat), es.map (fun e => (e.key, e.val)) = l.map (fun p => (enc p.1, p.2)) → (∀ p ∈ l, ok p.1) → Instr.findNow kd (enc a) es i = some (mfind l a i) := by
      intro es
      induction es with
      | nil =>
        intro l i he _
        cases l with
        | nil => rfl
        | cons p r => simp at he
      | cons e es ih =>
        intro l i he hl
        cases l with
        | nil => simp at he
        | cons p r =>
          obtain ⟨b, v⟩ := p
          simp only [List.map_cons, List.cons.injEq, Prod.mk.injEq] at he
          obtain ⟨⟨h1, h2⟩, h3⟩ := he
          simp only [Instr.findNow, h1, hnow a b ha (hl (b, v) (by simp)), mfind]
          by_cases hab : a = b
          · simp [hab, h2]
          · simp only [hab, decide_false, if_false]
            exact ih r (i + 1) h3 fun p hp => hl p (by simp [hp])
    exact MapKept.run_findKey hk (h es l 0 he hl)
  · have h : ∀ (es : List MapEntry) (l : List (α × Value)) (i : Nat), es.map (fun e => (e.key, e.val)) = l.map (fun p => (enc p.1, p.2)) → (∀ p ∈ l, ok p.1) → (Instr.findAsking kt (enc a) es i).run P w = .ok (mfind l a i) w := by
      intro es
      induction es with
      | nil =>
        intro l i he _
        cases l with
        | nil => simp [Instr.findAsking, mfind]
        | cons p r => simp at he
      | cons e es ih =>
        intro l i he hl
        cases l with
        | nil => simp at he
        | cons p r =>
          obtain ⟨b, v⟩ := p
          simp only [List.map_cons, List.cons.injEq, Prod.mk.injEq] at he
          obtain ⟨⟨h1, h2⟩, h3⟩ := he
          simp only [Instr.findAsking, Sem.run_bind, h1, heq w a b ha (hl (b, v) (by simp)), Result.andThen_ok, mfind]
          by_cases hab : a = b
          · simp [hab, h2]
          · simp only [hab, decide_false, if_false, Bool.false_eq_true]
            exact ih r (i + 1) h3 fun p hp => hl p (by simp [hp])
    cases es with
    | nil =>
      cases l with
      | nil => exact MapKept.run_findKey hk rfl
      | cons p r => simp at he
    | cons e es =>
      cases l with
      | nil => simp at he
      | cons p r =>
        have he' := he
        simp only [List.map_cons, List.cons.injEq, Prod.mk.injEq] at he'
        have hn : Instr.findNow kd (enc a) (e :: es) 0 = none := by simp only [Instr.findNow, he'.1.1, hnow a p.1 ha (hl p (by simp))]
        have e1 : Instr.findKey kt (enc a) (e :: es) = (do
          match Instr.findNow (← underlying kt) (enc a) (e :: es) 0 with
          | some r => pure r
          | none => Instr.findAsking kt (enc a) (e :: es)) := rfl
        rw [e1]
        simp only [Sem.run_bind, run_underlying hk, Result.andThen_ok, hn]
        exact h _ _ 0 he hl
/-- A map's entries. -/
structure MapOk (enc : α → Value) (ok : α → Prop) (es : List MapEntry) (clock : Nat) (l : List (α × Value)) : Prop where
  kv : es.map (fun e => (e.key, e.val)) = l.map (fun p => (enc p.1, p.2))
  oks : ∀ p ∈ l, ok p.1
  born : ∀ e ∈ es, e.born < clock
  inc : (es.map (·.born)).Pairwise (· < ·)
def mapA (enc : α → Value) (ok : α → Prop) (b : Nat) (l : List (α × Value)) : HProp := ex fun q : List MapEntry × Nat => stars [pur (MapOk enc ok q.1 q.2 l), blk b (.map q.1.toArray q.2)]
omit [DecidableEq α] in
theorem Sat.map_open {E w : World} {b : Nat} {l : List (α × Value)} {r : List HProp} (s : Sat E (stars (mapA enc ok b l :: r)) w) : ∃ es clock, MapOk enc ok es clock l ∧ Sat E (stars (blk b (.map es.toArray clock) :: r)) w := by
  obtain ⟨⟨es, clock⟩, s⟩ := s.ofex
  obtain ⟨h, s⟩ := Sat.ofpur (s.unfold)
  exact ⟨es, clock, h, s⟩
omit [DecidableEq α] in
theorem Sat.map_shut {E w : World} {b : Nat} {es : List MapEntry} {clock : Nat} {l : List (α × Value)} {r : List HProp} (h : MapOk enc ok es clock l) (s : Sat E (stars (blk b (.map es.toArray clock) :: r)) w) : Sat E (stars (mapA enc ok b l :: r)) w :=
  Sat.toex (es, clock) (Sat.fold (m := [pur (MapOk enc ok es clock l), blk b (.map es.toArray clock)]) (Sat.topur h s))
omit [DecidableEq α] in
theorem MapOk.nil : MapOk enc ok [] 0 [] := ⟨rfl, by simp, by simp, List.Pairwise.nil⟩
omit [DecidableEq α] in
theorem Sat.map_new {E w : World} {b : Nat} {r : List HProp} (s : Sat E (stars (blk b (.map #[] 0) :: r)) w) : Sat E (stars (mapA enc ok b [] :: r)) w := Sat.map_shut (es := []) MapOk.nil s
omit [DecidableEq α] in
theorem MapOk.len {es : List MapEntry} {clock : Nat} {l : List (α × Value)} (h : MapOk enc ok es clock l) : es.length = l.length := by
  have := congrArg List.length h.kv
  simpa using this
/-- Where a key is. -/
theorem mfind_at (l : List (α × Value)) (a : α) : ∀ i j v, mfind l a i = some (j, v) → i ≤ j ∧ ∃ u, l[j - i]? = some (a, u) ∧ u = v ∧ ∀ x, mput l a x = l.set (j - i) (a, x) ∧ mdel l a = l.eraseIdx (j - i) := by
  induction l with
  | nil => intro i j v h; cases h
  | cons p r ih =>
    intro i j v h
    obtain ⟨b, u⟩ := p
    simp only [mfind] at h
    split at h
    · rename_i hab
      simp only [Option.some.injEq, Prod.mk.injEq] at h
      obtain ⟨rfl, rfl⟩ := h
      refine ⟨Nat.le_refl _, u, by simp [hab], rfl, fun x => ?_⟩
      simp [mput, mdel, hab]
    · rename_i hab
      obtain ⟨h1, u', h2, h3, h4⟩ := ih (i + 1) j v h
      refine ⟨by omega, u', ?_, h3, fun x => ?_⟩
      · rw [show j - i = (j - (i + 1)) + 1 by omega, List.getElem?_cons_succ]; exact h2
      · rw [show j - i = (j - (i + 1)) + 1 by omega]
        simp only [mput, mdel, if_neg hab, List.set_cons_succ, List.eraseIdx_cons_succ]
        exact ⟨by rw [(h4 x).1], by rw [(h4 x).2]⟩
theorem mfind_none (l : List (α × Value)) (a : α) : ∀ i, mfind l a i = none → (∀ x, mput l a x = l ++ [(a, x)]) ∧ mdel l a = l := by
  induction l with
  | nil => intro i _; exact ⟨fun _ => rfl, rfl⟩
  | cons p r ih =>
    intro i h
    obtain ⟨b, u⟩ := p
    simp only [mfind] at h
    split at h
    · cases h
    · rename_i hab
      obtain ⟨h1, h2⟩ := ih (i + 1) h
      simp only [mput, mdel, if_neg hab, List.cons_append]
      exact ⟨fun x => by rw [h1 x], by rw [h2]⟩
omit [DecidableEq α] in
theorem MapOk.put_at {es : List MapEntry} {clock : Nat} {l : List (α × Value)} (h : MapOk enc ok es clock l) {j : Nat} {a : α} {u v : Value} (hj : l[j]? = some (a, u)) : MapOk enc ok (es.modify j fun e => { e with key := enc a, val := v }) clock (l.set j (a, v)) := by
  have hjl : j < l.length := (List.getElem?_eq_some_iff.1 hj).1
  have hb : (es.modify j fun e => { e with key := enc a, val := v }).map (·.born) = es.map (·.born) := by
    apply List.ext_getElem?
    intro i
    simp only [List.getElem?_map, List.getElem?_modify]
    split <;> cases es[i]? <;> rfl
  refine ⟨?_, fun p hp => ?_, fun e he => ?_, by rw [hb]; exact h.inc⟩
  · apply List.ext_getElem?
    intro i
    have hi := congrArg (fun (z : List (Value × Value)) => z[i]?) h.kv
    simp only [List.getElem?_map] at hi
    simp only [List.getElem?_map, List.getElem?_modify, List.getElem?_set]
    by_cases hij : j = i
    · subst hij
      have hel : j < es.length := by rw [h.len]; exact hjl
      simp [hjl, List.getElem?_eq_getElem hel]
    · simp only [hij, if_false]
      rw [← hi]
      cases es[i]? <;> rfl
  · rcases List.mem_or_eq_of_mem_set hp with hp | rfl
    · exact h.oks p hp
    · exact h.oks (a, u) (List.mem_of_getElem? hj)
  · have hm : e.born ∈ es.map (·.born) := by rw [← hb]; exact List.mem_map.2 ⟨e, he, rfl⟩
    obtain ⟨e', he', hb'⟩ := List.mem_map.1 hm
    rw [← hb']
    exact h.born e' he'
omit [DecidableEq α] in
theorem MapOk.push {es : List MapEntry} {clock : Nat} {l : List (α × Value)} (h : MapOk enc ok es clock l) {a : α} {v : Value} (ha : ok a) : MapOk enc ok (es ++ [MapEntry.mk (enc a) v clock]) (clock + 1) (l ++ [(a, v)]) :=
  ⟨by rw [List.map_append, List.map_append, h.kv]; rfl, fun p hp => by
    rcases List.mem_append.1 hp with hp | hp
    · exact h.oks p hp
    · rw [List.mem_singleton.1 hp]; exact ha, fun e he => by
    rcases List.mem_append.1 he with he | he
    · have := h.born e he; omega
    · rw [List.mem_singleton.1 he]; exact Nat.lt_succ_self _, by
    rw [List.map_append, List.pairwise_append]
    refine ⟨h.inc, by simp, fun x hx y hy => ?_⟩
    obtain ⟨e, he, rfl⟩ := List.mem_map.1 hx
    simp only [List.map_cons, List.map_nil, List.mem_singleton] at hy
    rw [hy]
    exact h.born e he⟩
end
theorem Sat.setBlock {E w : World} {l : List HProp} {b : Nat} {o : Obj} (s : Sat E (stars (blk b o :: l)) w) (o' : Obj) : Sat E (stars (blk b o' :: l)) (ChangeMaps.setBlock w b o') := by
  have hb := s.block
  have hlt : b < w.heap.size := (Array.getElem?_eq_some_iff.1 hb).1
  refine s.turn rfl rfl rfl ?_ fun k hk => ?_
  · simp [ChangeMaps.setBlock, hlt]
  · simp only [ChangeMaps.setBlock]
    rw [Array.getElem?_setIfInBounds_ne (by omega)]
theorem run_setObj_b {P : Program} {w : World} {b : Nat} {es : Array MapEntry} {clock : Nat} (hb : w.heap[b]? = some (.map es clock)) (o' : Obj) : (setObj b o').run P w = .ok () (ChangeMaps.setBlock w b o') := by
  simp [setObj, Sem.run, hb, ChangeMaps.setBlock]
theorem run_getObj_b {P : Program} {w : World} {b : Nat} {es : Array MapEntry} {clock : Nat} (hb : w.heap[b]? = some (.map es clock)) : (getObj b).run P w = .ok (.map es clock) w := by
  simp [getObj, Sem.run, hb]
section
variable {α : Type} [DecidableEq α] {enc : α → Value} {ok : α → Prop}
variable {P : Program} {E : World} {n : Nat} {ds : List Deferred} {env : Fr} {l r : List HProp} {T : Tab} {N : Fr → List HProp → Prop}
variable {d : Tmp} {dst : Option Tmp} {ty : TypeId} {pos : String} {af : Array Edge} {gd : Option (Nat × Bool)} {x y z : Operand} {v u zv : Value} {t t' kt et : TypeId}
/-- What looking gives. -/
def lookV (c : Bool) (o : Option Value) (z : Value) : Value := match c, o with
  | true, some v => .tuple #[v, .bool true]
  | true, none => .tuple #[z, .bool false]
  | false, some v => v
  | false, none => z
theorem y_lookup {c : Bool} {i j : TI} {b : Nat} {m : List (α × Value)} {a : α} {kv : Value} (hT : Tok P T) (hi : T.at t = some i) (hk : i.u = .map kt et) (hj : T.at et = some j) (hz : j.zero = some zv) (K : KeyOk P kt enc ok)
    (hx : val env x = some (.map (some b))) (hy : val env y = some kv) (hkv : kv = enc a) (ha : ok a) (hp : Pick l (mapA enc ok b m) r) :
    Y P E n ds ⟨dst, .lookup t x y c, ty, pos, af, gd⟩ env l (lookV c (mlook m a) zv) :=
  Y.of fun ac w hf hs => by
    subst hkv
    obtain ⟨es, clock, hm, s⟩ := (hs.pick hp).map_open
    have hb := s.block
    have h1 := hT.und w hi
    rw [hk] at h1
    have h2 := hT.zer w hj hz
    have h3 := K.run w ha es m hm.kv hm.oks
    have h4 := K.chk w es.toArray.isEmpty a ha
    simp only [execOp, hf.eval hx, hf.eval hy, Instr.lookup, Sem.run_bind, h1, Result.andThen_ok, run_getObj_b hb, Sem.run_pure, h4, h3]
    have h5 := mfind_look m a 0
    cases hq : mfind m a 0 with
    | none =>
      rw [hq] at h5
      rw [← h5]
      cases c <;> simp [lookV, h2]
    | some q =>
      rw [hq] at h5
      rw [← h5]
      cases c <;> simp [lookV]
end
end Go.SL
namespace Go.SL
open Go Go.RowKit
section
variable {P : Program} {T : Tab} {kt : TypeId}
theorem keyInt {i : TI} {k : IntKind} (hT : Tok P T) (hi : T.at kt = some i) (hk : i.u = .int k) : KeyOk P kt (fun x : Int => Value.int k x) (fun _ => True) where
  chk w em a _ := by
    have h1 := hT.und w hi
    rw [hk] at h1
    rw [Instr.checkKey.eq_def]
    simp [h1]
  now := by
    obtain ⟨h1, _⟩ := hT kt i hi
    rw [hk] at h1
    refine ⟨_, h1, .inl fun a b _ _ => ?_⟩
    simp only [Instr.sameNow, if_true, Option.some.injEq]
    rfl
  same a _ := by unfold Instr.sameBits; simp
end
/-! A walk through a map's entries. -/
section
variable {α : Type} {enc : α → Value} {ok : α → Prop}
structure ItOk (enc : α → Value) (ok : α → Prop) (es : List MapEntry) (clock since c0 : Nat) (seen : Array Nat) (m rest : List (α × Value)) (cur : Option (α × Value)) : Prop where
  map : MapOk enc ok es clock m
  old : ∀ e ∈ es, e.born < since
  le : since ≤ c0
  sc : since ≤ clock
  oks : ∀ p ∈ rest, ok p.1
  left : (leftOf es.toArray seen).toList.map (fun e => (e.key, e.val)) = rest.map (fun p => (enc p.1, p.2))
  now : ∀ p, cur = some p → ∃ e ∈ es, ∃ s0 : Array Nat, seen = s0.push e.born ∧ c0 = clock ∧ e.key = enc p.1 ∧ e.val = p.2
def mapIt (enc : α → Value) (ok : α → Prop) (b it : Nat) (m rest : List (α × Value)) (cur : Option (α × Value)) : HProp := ex fun q : List MapEntry × Nat × Nat × Nat × Array Nat =>
  stars [pur (ItOk enc ok q.1 q.2.1 q.2.2.1 q.2.2.2.1 q.2.2.2.2 m rest cur), blk b (.map q.1.toArray q.2.1), blk it (.mapIter (some b) q.2.2.1 q.2.2.2.2 q.2.2.2.1)]
theorem Sat.it_open {E w : World} {b it : Nat} {m rest : List (α × Value)} {cur : Option (α × Value)} {r : List HProp} (s : Sat E (stars (mapIt enc ok b it m rest cur :: r)) w) :
    ∃ es clock since c0 seen, ItOk enc ok es clock since c0 seen m rest cur ∧ Sat E (stars (blk b (.map es.toArray clock) :: blk it (.mapIter (some b) since seen c0) :: r)) w := by
  obtain ⟨⟨es, clock, since, c0, seen⟩, s⟩ := s.ofex
  obtain ⟨h, s⟩ := Sat.ofpur (s.unfold)
  exact ⟨es, clock, since, c0, seen, h, s⟩
theorem Sat.it_shut {E w : World} {b it : Nat} {m rest : List (α × Value)} {cur : Option (α × Value)} {r : List HProp} {es : List MapEntry} {clock since c0 : Nat} {seen : Array Nat} (h : ItOk enc ok es clock since c0 seen m rest cur)
    (s : Sat E (stars (blk b (.map es.toArray clock) :: blk it (.mapIter (some b) since seen c0) :: r)) w) : Sat E (stars (mapIt enc ok b it m rest cur :: r)) w :=
  Sat.toex (es, clock, since, c0, seen) (Sat.fold (m := [pur (ItOk enc ok es clock since c0 seen m rest cur), blk b (.map es.toArray clock), blk it (.mapIter (some b) since seen c0)]) (Sat.topur h s))
theorem map_split {β γ : Type} {f : β → γ} {g : α → γ} {L : List β} {R : List α} (h : L.map f = R.map g) {l1 : List β} {e : β} {l2 : List β} (he : L = l1 ++ e :: l2) : ∃ r1 x r2, R = r1 ++ x :: r2 ∧ l1.map f = r1.map g ∧ f e = g x ∧ l2.map f = r2.map g := by
  subst he
  rw [List.map_append, List.map_cons] at h
  obtain ⟨r1, r', h1, h2, h3⟩ := List.map_eq_append_iff.1 h.symm
  obtain ⟨x, r2, h4, h5, h6⟩ := List.map_eq_cons_iff.1 h3
  exact ⟨r1, x, r2, by rw [h1, h4], h2.symm, h5.symm, h6.symm⟩
/-- One entry fewer is left. -/
theorem left_push {es : List MapEntry} {seen : Array Nat} {e : MapEntry} (hinc : (es.map (·.born)).Pairwise (· < ·)) (he : e ∈ (leftOf es.toArray seen).toList) :
    ∃ l1 l2, (leftOf es.toArray seen).toList = l1 ++ e :: l2 ∧ (leftOf es.toArray (seen.push e.born)).toList = l1 ++ l2 := by
  have e1 : ∀ s : Array Nat, (leftOf es.toArray s).toList = es.filter fun e => !s.contains e.born := fun s => by unfold leftOf; simp
  rw [e1] at he ⊢
  rw [e1]
  obtain ⟨l1, l2, hl⟩ := List.append_of_mem he
  refine ⟨l1, l2, hl, ?_⟩
  have e2 : (es.filter fun x => !(seen.push e.born).contains x.born) = (es.filter fun x => !seen.contains x.born).filter fun x => !(x.born == e.born) := by
    rw [List.filter_filter]
    congr 1
    funext x
    rw [contains_push, Bool.not_or, Bool.and_comm]
  have hp : ((l1 ++ e :: l2).map (·.born)).Pairwise (· < ·) := by
    rw [← hl]
    exact hinc.sublist (List.filter_sublist.map _)
  rw [e2, hl, List.filter_append, List.filter_cons]
  rw [List.map_append, List.map_cons, List.pairwise_append] at hp
  obtain ⟨h1, h2, h3⟩ := hp
  rw [List.pairwise_cons] at h2
  have a1 : l1.filter (fun x => !(x.born == e.born)) = l1 := List.filter_eq_self.2 fun x hx => by
    have := h3 x.born (List.mem_map.2 ⟨x, hx, rfl⟩) e.born (by simp)
    simp; omega
  have a2 : l2.filter (fun x => !(x.born == e.born)) = l2 := List.filter_eq_self.2 fun x hx => by
    have := h2.1 x.born (List.mem_map.2 ⟨x, hx, rfl⟩)
    simp; omega
  rw [a1, a2]
  simp
end
section
variable {α : Type} {enc : α → Value} {ok : α → Prop}
variable {P : Program} {E : World} {n : Nat} {ds : List Deferred} {env : Fr} {l r : List HProp} {T : Tab} {N : Fr → List HProp → Prop}
variable {d : Tmp} {dst : Option Tmp} {ty : TypeId} {pos : String} {af : Array Edge} {gd : Option (Nat × Bool)} {x y z : Operand} {v u zv : Value} {t t' kt et : TypeId}
theorem l_rangeMap {i : TI} {b : Nat} {m : List (α × Value)} (hT : Tok P T) (hi : T.at t = some i) (hk : i.u = .map kt et) (hx : val env x = some (.map (some b))) (hp : Pick l (mapA enc ok b m) r) (hn : Nat.blt d n = true)
    (h : ∀ it, N ((d, .pointer (some ⟨it, 0, none⟩)) :: env) (mapIt enc ok b it m m none :: r)) : LS P E n ds ⟨some d, .range t x, ty, pos, af, gd⟩ env l N :=
  LS.of hn rfl fun ac w hf hs => by
    obtain ⟨es, clock, hm, s⟩ := (hs.pick hp).map_open
    have hb := s.block
    obtain ⟨hu, _⟩ := hT t i hi
    rw [hk] at hu
    have hrun := run_range_map w t kt et b es.toArray clock hu hb
    refine ⟨_, w.alloc (.mapIter (some b) clock #[] clock), _, ?_, ?_, h w.heap.size⟩
    · simp only [execOp, hf.eval hx]
      simp [hrun]
    · have s2 := s.alloc (.mapIter (some b) clock #[] clock)
      refine Sat.it_shut (es := es) (clock := clock) (since := clock) (c0 := clock) (seen := #[]) ⟨hm, hm.born, Nat.le_refl _, Nat.le_refl _, hm.oks, ?_, fun p hp => by cases hp⟩ (s2.pick (Pick.tail Pick.head))
      have e1 : (leftOf es.toArray #[]).toList = es := by unfold leftOf; simp
      rw [e1]
      exact hm.kv
theorem l_nextMap {b it : Nat} {m rest : List (α × Value)} {cur : Option (α × Value)} (hx : val env x = some (.pointer (some ⟨it, 0, none⟩))) (hp : Pick l (mapIt enc ok b it m rest cur) r) (hn : Nat.blt d n = true)
    (h0 : rest = [] → N ((d, .tuple #[.bool false]) :: env) (mapIt enc ok b it m [] cur :: r))
    (h1 : ∀ r1 a v r2, rest = r1 ++ (a, v) :: r2 → ok a → N ((d, .tuple #[.bool true, enc a, v]) :: env) (mapIt enc ok b it m (r1 ++ r2) (some (a, v)) :: r)) : LS P E n ds ⟨some d, .next x false, ty, pos, af, gd⟩ env l N :=
  LS.of hn rfl fun ac w hf hs => by
    obtain ⟨es, clock, since, c0, seen, hk, s⟩ := (hs.pick hp).it_open
    have hb := s.block
    have hr := (s.pick (Pick.tail Pick.head)).block
    rcases run_next_at (P := P) w ty it b since c0 seen es.toArray clock hr hb (by simpa using hk.old) hk.le with ⟨hz, hrun⟩ | ⟨e, he, w1, hw, hrun⟩
    · have hre : rest = [] := by
        have hl := hk.left
        rw [Array.eq_empty_of_size_eq_zero hz] at hl
        exact List.map_eq_nil_iff.1 hl.symm
      subst hre
      refine ⟨_, w, _, ?_, Sat.it_shut hk s, h0 rfl⟩
      simp only [execOp, hf.eval hx]
      simp [hrun]
    · obtain ⟨l1, l2, e1, e2⟩ := left_push hk.map.inc he
      obtain ⟨r1, ⟨a, u⟩, r2, f1, f2, f3, f4⟩ := map_split hk.left e1
      simp only [Prod.mk.injEq] at f3
      have hes : e ∈ es := by
        have := (mem_left he).1
        simpa using this
      have hoa : ok a := hk.oks (a, u) (by rw [f1]; simp)
      refine ⟨_, ChangeMaps.setBlock w1 it (.mapIter (some b) since (seen.push e.born) clock), _, ?_, ?_, h1 r1 a u r2 f1 hoa⟩
      · simp only [execOp, hf.eval hx]
        simp [hrun, f3.1, f3.2]
      · have s1 : Sat E (stars (blk it (.mapIter (some b) since seen c0) :: blk b (.map es.toArray clock) :: r)) w1 := by
          have q := s.pick (Pick.tail Pick.head)
          rcases hw with rfl | rfl
          · exact q
          · exact q.drew
        have s2 := s1.setBlock (.mapIter (some b) since (seen.push e.born) clock)
        refine Sat.it_shut ⟨hk.map, hk.old, hk.sc, hk.sc, fun p hp => hk.oks p (by rw [f1]; rcases List.mem_append.1 hp with q | q <;> simp [q]), ?_, fun p hp => ?_⟩ (s2.pick (Pick.tail Pick.head))
        · rw [e2, List.map_append, List.map_append, f2, f4]
        · simp only [Option.some.injEq] at hp
          subst hp
          exact ⟨e, hes, seen, rfl, rfl, f3.1, f3.2⟩
theorem y_entry {b it : Nat} {m rest : List (α × Value)} {a : α} (hx : val env x = some (.pointer (some ⟨it, 0, none⟩))) (hp : Pick l (mapIt enc ok b it m rest (some (a, v))) r) : Y P E n ds ⟨dst, .entry x, ty, pos, af, gd⟩ env l (.tuple #[enc a, v]) :=
  Y.of fun ac w hf hs => by
    obtain ⟨es, clock, since, c0, seen, hk, s⟩ := (hs.pick hp).it_open
    have hb := s.block
    have hr := (s.pick (Pick.tail Pick.head)).block
    obtain ⟨e, he, s0, rfl, rfl, h3, h4⟩ := hk.now (a, v) rfl
    have hnd : (es.toArray.toList.map (·.born)).Nodup := by
      have := hk.map.inc
      exact this.imp fun h => Nat.ne_of_lt h
    have h5 := run_entry_at (P := P) w it b since s0 es.toArray c0 e hr hb (by simpa using he) hnd
    simp only [execOp, hf.eval hx]
    simp [h5, h3, h4]
end
end Go.SL
namespace Go.SL
open Go Go.RowKit
section
variable {P : Program} {E : World} {n : Nat} {ds : List Deferred} {env : Fr} {l : List HProp} {T : Tab} {N : Fr → List HProp → Prop}
variable {d : Tmp} {ty : TypeId} {pos : String} {af : Array Edge} {gd : Option (Nat × Bool)} {f : FuncId}
theorem Y.cast {o : Oper} {v u : Value} (h : Y P E n ds o env l v) (e : v = u) : Y P E n ds o env l u := e ▸ h
/-- A call of a function without a body, that answers at once. -/
theorem l_callE {xs : List Operand} {us : List Value} {ts : Array TypeId} (hx : vals env xs = some us) (hn : Nat.blt d n = true)
    (h : ∀ w, Sat E (stars l) w → ∃ v w' l', (callFunc f us.toArray).run P w = .ok (.value v) w' ∧ Sat E (stars l') w' ∧ N ((d, v) :: env) l') :
    LS P E n ds ⟨some d, .call ⟨.value (.func f), xs.toArray, ts⟩, ty, pos, af, gd⟩ env l N :=
  LS.of hn rfl fun a w hfr hs => by
    obtain ⟨v, w', l', h1, h2, h3⟩ := h w hs
    refine ⟨v, w', l', ?_, h2, h3⟩
    have e3 : Array.map a.eval xs.toArray = us.toArray := by rw [← hfr.evals hx]; simp
    have e4 : a.eval (.func f) = .func (.func f) #[] #[] := rfl
    simp only [execOp, resolve, e3, e4, Deferred.ofValue, Sem.run_bind, Sem.run_pure, Result.andThen_ok, invoke]
    simp [h1]
end
end Go.SL
namespace Go.SL
open Go Go.RowKit
section
variable {α : Type} [Inhabited α]
section
variable {P : Program} {E : World} {n : Nat} {ds : List Deferred} {env : Fr} {l r : List HProp} {T : Tab} {N : Fr → List HProp → Prop}
variable {ty : TypeId} {pos : String} {af : Array Edge} {gd : Option (Nat × Bool)} {x y : Operand} {t : TypeId}
end
end
/-! Plain laws of the sort, in the shape that the walks want. -/
section
variable {α : Type} [Inhabited α] {lt : α → α → Bool}
end
section
variable {P : Program} {E : World} {n : Nat} {ds : List Deferred} {env : Fr} {l r : List HProp} {T : Tab}
variable {dst : Option Tmp} {ty : TypeId} {pos : String} {af : Array Edge} {gd : Option (Nat × Bool)} {x y : Operand} {t : TypeId}
end
section
variable {P : Program} {E : World} {l : List HProp} {R : Value → List HProp → Prop}
end
section
variable {α : Type} [Inhabited α] {lt : α → α → Bool}
end
end Go.SL
namespace Go.SL
open Go Go.RowKit
/-! Texts and their bytes. -/
/-- A text's bytes. -/
def bytesS (s : ByteArray) : List Int := s.data.toList.map fun b => (b.toNat : Int)
theorem bytesS_length (s : ByteArray) : (bytesS s).length = s.size := by
  rw [bytesS, List.length_map, Array.length_toList]; rfl
theorem bytesS_range (s : ByteArray) : ∀ x ∈ bytesS s, 0 ≤ x ∧ x ≤ 255 := fun x h => by
  obtain ⟨b, _, rfl⟩ := List.mem_map.1 h
  have := b.toNat_lt
  omega
theorem strOf_bytesS (s : ByteArray) : strOf (bytesS s) = s := by
  apply ByteArray.ext
  apply Array.ext'
  rw [strOf_data, bytesS, List.map_map]
  conv => rhs; rw [← List.map_id s.data.toList]
  refine List.map_congr_left fun b _ => ?_
  simp
theorem bytesS_strOf {xs : List Int} (h : ∀ x ∈ xs, 0 ≤ x ∧ x ≤ 255) : bytesS (strOf xs) = xs :=
  strOf_inj (bytesS_range _) h (strOf_bytesS _)
theorem bytesS_inj {s u : ByteArray} (h : bytesS s = bytesS u) : s = u := by rw [← strOf_bytesS s, ← strOf_bytesS u, h]
theorem strOf_size (xs : List Int) : (strOf xs).size = xs.length := by
  rw [show (strOf xs).size = (strOf xs).data.toList.length by rw [Array.length_toList]; rfl, strOf_data, List.length_map]
section
variable {P : Program} {E : World} {n : Nat} {ds : List Deferred} {env : Fr} {l r : List HProp} {T : Tab} {N : Fr → List HProp → Prop}
variable {dst : Option Tmp} {d : Tmp} {ty : TypeId} {pos : String} {af : Array Edge} {gd : Option (Nat × Bool)} {x y z : Operand} {v : Value} {t t' : TypeId}
theorem y_str_add {s u : ByteArray} (hx : val env x = some (.string s)) (hy : val env y = some (.string u)) (hb : s.size + u.size ≤ 9223372036854775807) : Y P E n ds ⟨dst, .binOp .add t x y t', ty, pos, af, gd⟩ env l (.string (s ++ u)) :=
  Y.of fun a w hf _ => by
    have h : ¬ (9223372036854775807 < (s.size : Int) + (u.size : Int)) := by omega
    simp only [execOp, hf.eval hx, hf.eval hy]
    simp [binOp, Op.stringOp, go_sem, IntKind.max, IntKind.signed, IntKind.bits, h]
theorem y_str_neB {s u : ByteArray} {b : Bool} (hx : val env x = some (.string s)) (hy : val env y = some (.string u)) (hb : decide (s ≠ u) = b) : Y P E n ds ⟨dst, .binOp .neq t x y t', ty, pos, af, gd⟩ env l (.bool b) := hb ▸ y_str_ne hx hy
end
section
variable {α : Type} [DecidableEq α] {P : Program} {E : World} {n : Nat} {ds : List Deferred} {env : Fr} {l r : List HProp} {T : Tab} {N : Fr → List HProp → Prop}
variable {d : Tmp} {ty : TypeId} {pos : String} {af : Array Edge} {gd : Option (Nat × Bool)} {x y z : Operand} {v : Value} {t kt et : TypeId} {enc : α → Value} {ok : α → Prop}
end
section
variable {P : Program} {E : World} {n : Nat} {ds : List Deferred} {env : Fr} {l : List HProp} {T : Tab}
variable {dst : Option Tmp} {ty : TypeId} {pos : String} {af : Array Edge} {gd : Option (Nat × Bool)} {x y : Operand} {v : Value} {t t' kt et : TypeId}
end
section
variable {α : Type} [DecidableEq α] {P : Program} {E : World} {n : Nat} {ds : List Deferred} {env : Fr} {l r : List HProp} {T : Tab} {N : Fr → List HProp → Prop}
variable {ty : TypeId} {pos : String} {af : Array Edge} {gd : Option (Nat × Bool)} {x y : Operand} {t t' kt et : TypeId} {enc : α → Value} {ok : α → Prop}
end
end Go.SL
namespace Go.SL
open Go Go.RowKit
/-! A number as a text of one sign; texts put together. -/
theorem strOf_app (xs ys : List Int) : strOf xs ++ strOf ys = strOf (xs ++ ys) := by
  apply ByteArray.ext
  apply Array.ext'
  rw [ByteArray.data_append, Array.toList_append, strOf_data, strOf_data, strOf_data, List.map_append]
section
variable {P : Program} {E : World} {n : Nat} {ds : List Deferred} {env : Fr} {l : List HProp} {T : Tab}
variable {dst : Option Tmp} {ty : TypeId} {pos : String} {af : Array Edge} {gd : Option (Nat × Bool)} {x : Operand} {t t' : TypeId}
/-- Texts that are lists of bytes are put together. -/
theorem y_addS {y : Operand} {ty2 : TypeId} {xs ys zs : List Int} (hx : val env x = some (.string (strOf xs))) (hy : val env y = some (.string (strOf ys))) (hz : xs ++ ys = zs) (hb : xs.length + ys.length ≤ 9223372036854775807) :
    Y P E n ds ⟨dst, .binOp .add t x y ty2, ty, pos, af, gd⟩ env l (.string (strOf zs)) := by
  have h := y_str_add (P := P) (E := E) (n := n) (ds := ds) (l := l) (dst := dst) (ty := ty) (pos := pos) (af := af) (gd := gd) (t := t) (t' := ty2) hx hy (by rw [strOf_size, strOf_size]; exact hb)
  rw [strOf_app, hz] at h
  exact h
theorem bytesS_extract (s : ByteArray) (lo hi : Nat) : bytesS (s.extract lo hi) = ((bytesS s).take hi).drop lo := by
  unfold bytesS
  rw [ByteArray.data_extract, Array.toList_extract, List.extract, List.map_take, List.map_drop, List.take_drop]
  rcases Nat.lt_or_ge lo hi with h | h
  · rw [show lo + (hi - lo) = hi by omega]
  · rw [show lo + (hi - lo) = lo by omega, List.drop_eq_nil_of_le (by simp; omega), List.drop_eq_nil_of_le (by simp; omega)]
theorem extract_strOf (s : ByteArray) (lo hi : Nat) : s.extract lo hi = strOf (((bytesS s).take hi).drop lo) := by
  rw [← bytesS_extract, strOf_bytesS]
/-- A text's byte. -/
theorem y_index_str (hT : Tok P T) {q : TI} {y : Operand} {k : IntKind} {ix b : Int} {i : Nat} {s : ByteArray} (hd : T.at t = some q) (hk : q.u = .string) (hx : val env x = some (.string s)) (hy : val env y = some (.int k ix)) (hi : ix = (i : Int)) (hb : (bytesS s)[i]? = some b) :
    Y P E n ds ⟨dst, .index t x y, ty, pos, af, gd⟩ env l (.int .u8 b) :=
  Y.of fun a w hf _ => by
    have hu := (hT t q hd).1
    rw [hk] at hu
    subst hi
    have hl : i < s.size := by
      have := (List.getElem?_eq_some_iff.1 hb).1
      rwa [bytesS_length] at this
    simp only [execOp, hf.eval hx, hf.eval hy]
    have e := run_index_string w t s k (i : Int) hu
    rw [dif_pos ⟨by omega, by omega⟩] at e
    have e2 : ((s[(i : Int).toNat]'(by omega)).toNat : Int) = b := by
      unfold bytesS at hb
      rw [List.getElem?_map] at hb
      have hl2 : i < s.data.toList.length := by simpa using hl
      rw [List.getElem?_eq_getElem hl2, Option.map_some] at hb
      have hb := Option.some.inj hb
      rw [← hb]
      rfl
    rw [e2] at e
    simp [e]
/-- A piece of a text. -/
theorem y_slice_str (hT : Tok P T) {q : TI} {lo hi : Nat} {s : ByteArray} {xs : List Int} (hd : T.at t = some q) (hk : q.u = .string)
    {ol oh : Option Operand} (hx : val env x = some (.string s)) (hs : bytesS s = xs)
    (hol : (ol = none ∧ lo = 0) ∨ ∃ o kl il, ol = some o ∧ val env o = some (.int kl il) ∧ il = (lo : Int))
    (hoh : (oh = none ∧ hi = xs.length) ∨ ∃ o kh ih, oh = some o ∧ val env o = some (.int kh ih) ∧ ih = (hi : Int))
    (h1 : lo ≤ hi) (h2 : hi ≤ xs.length) :
    Y P E n ds ⟨dst, .slice t x ol oh none, ty, pos, af, gd⟩ env l (.string (strOf ((xs.take hi).drop lo))) :=
  Y.of fun a w hfr _ => by
    have g1 := hT.und w hd
    rw [hk] at g1
    have hsz : s.size = xs.length := by rw [← hs, bytesS_length]
    have hb : (Instr.sliceBounds false s.size s.size (ol.map a.eval) (oh.map a.eval) none).run P w = .ok (lo, hi, s.size) w := by
      unfold Instr.sliceBounds
      rcases hol with ⟨rfl, rfl⟩ | ⟨o, kl, il, rfl, ho, rfl⟩ <;> rcases hoh with ⟨rfl, rfl⟩ | ⟨o', kh, ih, rfl, ho', rfl⟩
      · simp [hsz]
      · have q : (0:Int) ≤ (hi:Int) ∧ (hi:Int) ≤ (s.size:Int) := by omega
        simp [Instr.sliceBound, hfr.eval ho', asIntOf, hsz, h2]
      · simp [Instr.sliceBound, hfr.eval ho, asIntOf, hsz, h1]
      · simp [Instr.sliceBound, hfr.eval ho, hfr.eval ho', asIntOf, hsz, h1, h2]
    have e := extract_strOf s lo hi
    rw [hs] at e
    simp [execOp, hfr.eval hx, Instr.sliceAt, Instr.slice, g1, hb, e]
end
end Go.SL
namespace Go.SL
open Go Go.RowKit
/-! Texts told as lists of bytes. -/
def Bys (xs : List Int) : Prop := ∀ x ∈ xs, 0 ≤ x ∧ x ≤ 255
theorem Bys.nil : Bys [] := fun _ h => by cases h
theorem Bys.cons {x : Int} {xs : List Int} (h0 : 0 ≤ x) (h1 : x ≤ 255) (h : Bys xs) : Bys (x :: xs) := fun y hy => by
  rcases List.mem_cons.1 hy with rfl | q
  · exact ⟨h0, h1⟩
  · exact h y q
theorem Bys.app {xs ys : List Int} (h : Bys xs) (h2 : Bys ys) : Bys (xs ++ ys) := fun y hy => (List.mem_append.1 hy).elim (h y) (h2 y)
theorem Bys.take {xs : List Int} (h : Bys xs) (n : Nat) : Bys (xs.take n) := fun y hy => h y (List.mem_of_mem_take hy)
theorem Bys.drop {xs : List Int} (h : Bys xs) (n : Nat) : Bys (xs.drop n) := fun y hy => h y (List.mem_of_mem_drop hy)
theorem Bys.all {xs : List Int} (h : xs.all (fun x => decide (0 ≤ x) && decide (x ≤ 255)) = true) : Bys xs := fun x hx => by
  have := List.all_eq_true.1 h x hx
  simpa using this
theorem Bys.get {xs : List Int} (h : Bys xs) {i : Nat} {x : Int} (hx : xs[i]? = some x) : 0 ≤ x ∧ x ≤ 255 := h x (List.mem_of_getElem? hx)
theorem strOf_iff {xs ys : List Int} (hx : Bys xs) (hy : Bys ys) : strOf xs = strOf ys ↔ xs = ys := ⟨fun h => strOf_inj hx hy h, fun h => by rw [h]⟩
theorem strOf_of (s : ByteArray) : ∃ xs, s = strOf xs ∧ Bys xs ∧ xs.length = s.size := ⟨bytesS s, (strOf_bytesS s).symm, bytesS_range s, bytesS_length s⟩
section
variable {P : Program} {E : World} {n : Nat} {ds : List Deferred} {env : Fr} {l : List HProp} {T : Tab}
variable {dst : Option Tmp} {ty : TypeId} {pos : String} {af : Array Edge} {gd : Option (Nat × Bool)} {x y : Operand} {t t' : TypeId}
theorem y_lenS (hT : Tok P T) {d : TI} {xs : List Int} (hd : T.at t = some d) (hk : d.u = .string) (hx : val env x = some (.string (strOf xs))) :
    Y P E n ds ⟨dst, .call ⟨.builtin .len, #[x], #[t]⟩, ty, pos, af, gd⟩ env l (.int .i64 xs.length) := by
  have h := y_len_string (E := E) (n := n) (ds := ds) (l := l) (dst := dst) (ty := ty) (pos := pos) (af := af) (gd := gd) hT hd hk hx
  rw [strOf_size] at h
  exact h
theorem y_ixS (hT : Tok P T) {q : TI} {k : IntKind} {ix b : Int} {i : Nat} {xs : List Int} (hB : Bys xs) (hd : T.at t = some q) (hk : q.u = .string) (hx : val env x = some (.string (strOf xs))) (hy : val env y = some (.int k ix)) (hi : ix = (i : Int)) (hb : xs[i]? = some b) :
    Y P E n ds ⟨dst, .index t x y, ty, pos, af, gd⟩ env l (.int .u8 b) := y_index_str hT hd hk hx hy hi (by rw [bytesS_strOf hB]; exact hb)
theorem y_cutS (hT : Tok P T) {q : TI} {lo hi : Nat} {xs : List Int} (hB : Bys xs) (hd : T.at t = some q) (hk : q.u = .string)
    {ol oh : Option Operand} (hx : val env x = some (.string (strOf xs)))
    (hol : (ol = none ∧ lo = 0) ∨ ∃ o kl il, ol = some o ∧ val env o = some (.int kl il) ∧ il = (lo : Int))
    (hoh : (oh = none ∧ hi = xs.length) ∨ ∃ o kh ih, oh = some o ∧ val env o = some (.int kh ih) ∧ ih = (hi : Int))
    (h1 : lo ≤ hi) (h2 : hi ≤ xs.length) :
    Y P E n ds ⟨dst, .slice t x ol oh none, ty, pos, af, gd⟩ env l (.string (strOf ((xs.take hi).drop lo))) := y_slice_str hT hd hk hx (bytesS_strOf hB) hol hoh h1 h2
theorem y_eqS {xs ys : List Int} {b : Bool} (hX : Bys xs) (hY : Bys ys) (hx : val env x = some (.string (strOf xs))) (hy : val env y = some (.string (strOf ys))) (hb : b = decide (xs = ys)) :
    Y P E n ds ⟨dst, .binOp .eql t x y t', ty, pos, af, gd⟩ env l (.bool b) := y_str_eqB hx hy (by rw [hb]; exact decide_eq_decide.2 (strOf_iff hX hY))
theorem y_neS {xs ys : List Int} {b : Bool} (hX : Bys xs) (hY : Bys ys) (hx : val env x = some (.string (strOf xs))) (hy : val env y = some (.string (strOf ys))) (hb : b = decide (xs ≠ ys)) :
    Y P E n ds ⟨dst, .binOp .neq t x y t', ty, pos, af, gd⟩ env l (.bool b) := y_str_neB hx hy (by rw [hb]; exact decide_eq_decide.2 (not_congr (strOf_iff hX hY)))
end
set_option maxRecDepth 10000 in
theorem decode_high (s : ByteArray) (p : Nat) (h : p < s.size) (hb : 128 ≤ (s[p]'h).toNat) : 128 ≤ (Utf8.decode s p).1 := by
  have e : s.get! (p + 0) = s[p]'h := by
    show s.get! p = _
    simp [ByteArray.get!, getElem!_pos, h]
    rfl
  have hn : ¬ (s[p]'h).toNat < 128 := by omega
  simp only [Utf8.decode, e, hn, if_false, Utf8.runeError]
  split
  · split <;> dsimp only <;> omega
  · split
    · split
      · rename_i q
        simp only [Bool.and_eq_true, decide_eq_true_eq] at q
        dsimp only; omega
      · dsimp only; omega
    · split
      · split
        · rename_i q
          simp only [Bool.and_eq_true, decide_eq_true_eq] at q
          dsimp only; omega
        · dsimp only; omega
      · dsimp only; omega
section
variable {P : Program} {E : World} {n : Nat} {ds : List Deferred} {env : Fr} {l r : List HProp} {N : Fr → List HProp → Prop}
variable {d : Tmp} {ty : TypeId} {pos : String} {af : Array Edge} {gd : Option (Nat × Bool)} {x : Operand}
/-- The next sign of a text: a byte below 128, or something that is no such byte. -/
theorem l_nextR {b p : Nat} {xs : List Int} (hB : Bys xs) (hx : val env x = some (.pointer (some ⟨b, 0, none⟩))) (hp : Pick l (blk b (.stringIter (strOf xs) p)) r) (hn : Nat.blt d n = true)
    (h0 : xs.length ≤ p → N ((d, .tuple #[.bool false]) :: env) (blk b (.stringIter (strOf xs) p) :: r))
    (h1 : ∀ c, xs[p]? = some c → c < 128 → N ((d, .tuple #[.bool true, .int .i64 p, .int .i32 c]) :: env) (blk b (.stringIter (strOf xs) (p + 1)) :: r))
    (h2 : ∀ (c z : Int) (q : Nat), xs[p]? = some c → 128 ≤ c → 128 ≤ z → z ≤ 2147483647 → N ((d, .tuple #[.bool true, .int .i64 p, .int .i32 z]) :: env) (blk b (.stringIter (strOf xs) q) :: r)) :
    LS P E n ds ⟨some d, .next x true, ty, pos, af, gd⟩ env l N :=
  LS.of hn rfl fun a w hfr hs => by
    have s1 := hs.pick hp
    have hb := s1.block
    by_cases hlt : p < (strOf xs).size
    · have hlx : p < xs.length := by rwa [strOf_size] at hlt
      have hc : (((strOf xs)[p]'hlt).toNat : Int) = xs[p] := by
        have h := bytesS_strOf hB
        have h2 : (bytesS (strOf xs))[p]? = xs[p]? := by rw [h]
        unfold bytesS at h2
        rw [List.getElem?_map, List.getElem?_eq_getElem (by simpa using hlt), List.getElem?_eq_getElem hlx, Option.map_some] at h2
        exact Option.some.inj h2
      by_cases ha : ((strOf xs)[p]'hlt).toNat < 128
      · have hr := Lib.run_next_ascii_at (P := P) w b (strOf xs) p ty hb hlt ha
        refine ⟨_, _, _, ?_, s1.turn (w' := w.iterAt b (strOf xs) (p + 1)) rfl rfl rfl (Lib.iterAt_heap w b _ p (p + 1) hb) (fun k hk => Lib.iterAt_other w b k _ (p + 1) hk), h1 _ (List.getElem?_eq_getElem hlx) (by omega)⟩
        simp only [execOp]
        rw [hfr.eval hx]
        simp [hr, hc]
      · have hr := Lib.run_next_any_at (P := P) w b (strOf xs) p ty hb hlt
        have hd := decode_high (strOf xs) p hlt (by omega)
        have hd2 := decode_le (strOf xs) p
        refine ⟨_, _, _, ?_, s1.turn (w' := w.iterAt b (strOf xs) (p + (Utf8.decode (strOf xs) p).2)) rfl rfl rfl (Lib.iterAt_heap w b _ p _ hb) (fun k hk => Lib.iterAt_other w b k _ _ hk), h2 _ ((Utf8.decode (strOf xs) p).1 : Nat) (p + (Utf8.decode (strOf xs) p).2) (List.getElem?_eq_getElem hlx) (by omega) (by omega) (by omega)⟩
        simp only [execOp]
        rw [hfr.eval hx]
        simp [hr]
    · have hr := Lib.run_next_end_at (P := P) w b (strOf xs) p ty hb hlt
      refine ⟨_, w, _, ?_, s1, h0 (by rw [strOf_size] at hlt; omega)⟩
      simp only [execOp]
      rw [hfr.eval hx]
      simp [hr]
/-- The next sign, in two ways: the end, or a sign that is the byte, or that is none. -/
theorem l_nextC {b p : Nat} {xs : List Int} (hB : Bys xs) (hx : val env x = some (.pointer (some ⟨b, 0, none⟩))) (hp : Pick l (blk b (.stringIter (strOf xs) p)) r) (hn : Nat.blt d n = true)
    (h0 : xs.length ≤ p → N ((d, .tuple #[.bool false]) :: env) (blk b (.stringIter (strOf xs) p) :: r))
    (h1 : ∀ (c z : Int) (q : Nat), xs[p]? = some c → (0 ≤ c ∧ c < 128 ∧ z = c ∧ q = p + 1) ∨ (128 ≤ c ∧ 128 ≤ z ∧ z ≤ 2147483647) → N ((d, .tuple #[.bool true, .int .i64 p, .int .i32 z]) :: env) (blk b (.stringIter (strOf xs) q) :: r)) :
    LS P E n ds ⟨some d, .next x true, ty, pos, af, gd⟩ env l N :=
  l_nextR hB hx hp hn h0 (fun c hc h => h1 c c (p + 1) hc (.inl ⟨(hB.get hc).1, h, rfl, rfl⟩)) (fun c z q hc h2 h3 h4 => h1 c z q hc (.inr ⟨h2, h3, h4⟩))
end
section
variable {P : Program} {E : World} {n : Nat} {ds : List Deferred} {env : Fr} {l : List HProp} {T : Tab}
variable {dst : Option Tmp} {ty : TypeId} {pos : String} {af : Array Edge} {gd : Option (Nat × Bool)} {x : Operand} {t t' : TypeId}
/-- Is there an error? -/
theorem y_ifnil {ms : Array (String × TypeId)} (hu : P.underlying t = some (.interface ms)) {v : Value} {b : Bool} (hx : val env x = some v) (hv : (b = true ∧ v = .nilIface) ∨ (b = false ∧ ∃ te pe, v = .iface te pe)) :
    Y P E n ds ⟨dst, .binOp .eql t x (.const .nilIface) t', ty, pos, af, gd⟩ env l (.bool b) :=
  Y.of fun a w hf _ => by
    rcases hv with ⟨rfl, rfl⟩ | ⟨rfl, te, pe, rfl⟩
    · have h : (binOp .eql t .nilIface .nilIface).run P w = .ok (.bool true) w := by
        have e : (Op.equalIn 10000 t .nilIface .nilIface).run P w = .ok true w := by
          rw [Op.equalIn]
          simp only [Sem.run_bind, run_underlying hu, Result.andThen_ok]
          rfl
        simp only [binOp, Op.equal, Op.maxDepth, Sem.run_bind, e, Result.andThen_ok, Sem.run_pure]
      simp only [execOp, hf.eval hx, hf.eval (show val env (.const .nilIface) = some .nilIface from rfl), eqGuard_nil_constR, Sem.run_bind, Sem.run_pure, Result.andThen_ok, h]
    · have h : (binOp .eql t (.iface te pe) .nilIface).run P w = .ok (.bool false) w := by
        have e : (Op.equalIn 10000 t (.iface te pe) .nilIface).run P w = .ok false w := by
          rw [Op.equalIn]
          simp only [Sem.run_bind, run_underlying hu, Result.andThen_ok]
          rfl
        simp only [binOp, Op.equal, Op.maxDepth, Sem.run_bind, e, Result.andThen_ok, Sem.run_pure]
      simp only [execOp, hf.eval hx, hf.eval (show val env (.const .nilIface) = some .nilIface from rfl), eqGuard_at_iface, Sem.run_bind, Sem.run_pure, Result.andThen_ok, h]
/-- A number turned into a text: its sign, in bytes. -/
theorem y_convSign {T : Tab} (hT : Tok P T) {s d : TI} {k : IntKind} {i : Int} {u : ByteArray} (hs : T.at t = some s) (hd : T.at t' = some d) (hk : d.u = .string) (hx : val env x = some (.int k i)) (hu : Utf8.encode i = u) :
    Y P E n ds ⟨dst, .convert t t' x, ty, pos, af, gd⟩ env l (.string u) :=
  Y.of fun a w hf _ => by
    simp only [execOp, hf.eval hx, convert]
    simp only [Sem.run_bind, hT.und w hs, hT.und w hd, Result.andThen_ok, hk]
    rw [← hu]
    cases s.u <;> simp [Conv.intToString]
/-- A number's bits turned over. -/
theorem y_cplI {i m : Int} (hx : val env x = some (.int .i64 i)) (hr : bitsE .xor .i64 (-1) i = some m) : Y P E n ds ⟨dst, .unOp .xor t x, ty, pos, af, gd⟩ env l (.int .i64 m) :=
  Y.of fun w _ hf _ => by
    have e : IntKind.i64.wrap ((BitVec.ofInt 64 (-1) ^^^ BitVec.ofInt 64 i).toNat : Int) = m := Option.some.inj hr
    simp only [execOp, hf.eval hx, Op.unary, Op.intBits]
    rw [← e]
    rfl
end
end Go.SL
namespace Go.SL
open Go Go.RowKit
/-! Values of many cells: compared, and as keys of maps. -/
/-- A cell's kind. -/
inductive CK where
  | int (k : IntKind)
  | str
  | bool
def CK.fits : CK → Value → Prop
  | .int k, v => ∃ n, v = .int k n
  | .str, v => ∃ s, v = .string s
  | .bool, v => ∃ b, v = .bool b
def Fits : List CK → List Value → Prop
  | [], [] => True
  | k :: ks, v :: vs => k.fits v ∧ Fits ks vs
  | _, _ => False
theorem Fits.length : ∀ {ks : List CK} {vs : List Value}, Fits ks vs → vs.length = ks.length
  | [], [], _ => rfl
  | _ :: _, _ :: _, h => by simp [Fits.length h.2]
  | [], _ :: _, h => h.elim
  | _ :: _, [], h => h.elim
theorem Fits.append : ∀ {k1 k2 : List CK} {vs : List Value}, Fits (k1 ++ k2) vs ↔ Fits k1 (vs.take k1.length) ∧ Fits k2 (vs.drop k1.length)
  | [], k2, vs => by simp [Fits]
  | k :: k1, k2, [] => by simp [Fits]
  | k :: k1, k2, v :: vs => by
    simp only [List.cons_append, Fits, List.length_cons, List.take_succ_cons, List.drop_succ_cons]
    rw [Fits.append (k1 := k1)]
    exact and_assoc.symm
theorem Fits.app {k1 k2 : List CK} {v1 v2 : List Value} (h1 : Fits k1 v1) (h2 : Fits k2 v2) : Fits (k1 ++ k2) (v1 ++ v2) := by
  rw [Fits.append, ← h1.length, List.take_left, List.drop_left]
  exact ⟨h1, h2⟩
def flatF (f : TypeId → Option (List CK)) : Nat → List Field → Option (List CK)
  | _, [] => some []
  | off, fd :: r => if fd.offset = off ∧ fd.name ≠ "_" then
      match f fd.type with
      | none => none
      | some ks => match flatF f (off + ks.length) r with
        | none => none
        | some rs => some (ks ++ rs)
    else none
def flatU (f : TypeId → Option (List CK)) : TypeDesc → Option (List CK)
  | .int k => some [.int k]
  | .string => some [.str]
  | .bool => some [.bool]
  | .array m e => match f e with
    | none => none
    | some ks => some (List.replicate m ks).flatten
  | .struct fs => flatF f 0 fs.toList
  | _ => none
/-- The kinds of a type's cells, if they are whole numbers, texts and bools alone. -/
def flatK (T : Tab) : Nat → TypeId → Option (List CK)
  | 0, _ => none
  | n + 1, t => match T.at t with
    | none => none
    | some i => match flatU (flatK T n) i.u with
      | none => none
      | some ks => if ks.length = i.size then some ks else none
theorem flatK_at {T : Tab} {n : Nat} {t : TypeId} {ks : List CK} (h : flatK T (n + 1) t = some ks) : ∃ i, T.at t = some i ∧ flatU (flatK T n) i.u = some ks ∧ ks.length = i.size := by
  rw [flatK] at h
  cases e1 : T.at t with
  | none => rw [e1] at h; cases h
  | some i =>
    rw [e1] at h
    cases e2 : flatU (flatK T n) i.u with
    | none => simp only [e2] at h; cases h
    | some k2 =>
      simp only [e2] at h
      split at h
      · cases h; rename_i e3; exact ⟨i, rfl, e2, e3⟩
      · cases h
theorem take_split {α : Type} (L : List α) (off a b : Nat) : (L.drop off).take (a + b) = (L.drop off).take a ++ (L.drop (off + a)).take b := by
  rw [List.take_add, List.drop_drop]
section
variable {P : Program} {T : Tab}
theorem part_one (hT : Tok P T) {w : World} {t : TypeId} {i : TI} {X : Array Value} {off : Nat} {v : Value} (hi : T.at t = some i) (ha : isAggB i.u = false) (h : X.toList[off]? = some v) : (part t X off).run P w = .ok v w := by
  have h2 := hT.agg w hi
  have e : X[off]? = some v := by rw [← Array.getElem?_toList]; exact h
  simp [part, h2, ha, e]
theorem part_agg (hT : Tok P T) {w : World} {t : TypeId} {i : TI} {X : Array Value} {off : Nat} (hi : T.at t = some i) (ha : isAggB i.u = true) : (part t X off).run P w = .ok (.agg (X.extract off (off + i.size))) w := by
  have h2 := hT.agg w hi
  have h3 := hT.siz w hi
  simp [part, h2, ha, h3]
theorem drop_one {L : List Value} {off : Nat} {k : CK} (h : Fits [k] ((L.drop off).take 1)) : ∃ v, L[off]? = some v ∧ (L.drop off).take 1 = [v] ∧ k.fits v := by
  cases e : L.drop off with
  | nil => rw [e] at h; exact h.elim
  | cons v r =>
    rw [e] at h
    refine ⟨v, ?_, by simp, h.1⟩
    have := congrArg (fun (z : List Value) => z[0]?) e
    simpa using this
theorem extract_list (X : Array Value) (off n : Nat) : (X.extract off (off + n)).toList = (X.toList.drop off).take n := by
  rw [Array.toList_extract, List.extract_eq_take_drop]
  congr 1
  omega
theorem chunks_eq {k : Nat} : ∀ (m : Nat) (A B : List Value), A.length = m * k → B.length = m * k → ((∀ a, a < m → (A.drop (a * k)).take k = (B.drop (a * k)).take k) ↔ A = B)
  | 0, A, B, ha, hb => by
    rw [Nat.zero_mul] at ha hb
    rw [List.eq_nil_of_length_eq_zero ha, List.eq_nil_of_length_eq_zero hb]
    simp
  | m + 1, A, B, ha, hb => by
    have e : (m + 1) * k = k + m * k := by rw [Nat.add_mul]; omega
    rw [e] at ha hb
    have ih := chunks_eq (k := k) m (A.drop k) (B.drop k) (by rw [List.length_drop]; omega) (by rw [List.length_drop]; omega)
    constructor
    · intro h
      have h0 := h 0 (by omega)
      rw [Nat.zero_mul, List.drop_zero, List.drop_zero] at h0
      have h1 := ih.1 fun a ha => by
        have := h (a + 1) (by omega)
        rw [List.drop_drop, List.drop_drop]
        rwa [show (a + 1) * k = k + a * k by rw [Nat.add_mul]; omega] at this
      rw [← List.take_append_drop k A, ← List.take_append_drop k B, h0, h1]
    · rintro rfl a _
      rfl
theorem Fits.rep {ks : List CK} : ∀ (m : Nat) {vs : List Value}, Fits (List.replicate m ks).flatten vs → ∀ a, a < m → Fits ks ((vs.drop (a * ks.length)).take ks.length)
  | m + 1, vs, h, 0, _ => by
    rw [List.replicate_succ, List.flatten_cons, Fits.append] at h
    simpa using h.1
  | m + 1, vs, h, a + 1, ha => by
    rw [List.replicate_succ, List.flatten_cons, Fits.append] at h
    have := Fits.rep m h.2 a (by omega)
    rwa [List.drop_drop, show ks.length + a * ks.length = (a + 1) * ks.length by rw [Nat.add_mul]; omega] at this
theorem holds_struct {n : Nat} {t : TypeId} {fs : Array Field} (h : P.holdsStoodIn (n + 1) t = false) (hu : P.underlying t = some (.struct fs)) : P.stoodInHeld t = false ∧ ∀ f ∈ fs.toList, P.holdsStoodIn n f.type = false := by
  rw [Program.holdsStoodIn, hu] at h
  simp only [Bool.or_eq_false_iff] at h
  refine ⟨h.1, fun f hf => ?_⟩
  have h2 := h.2
  rw [← Array.any_toList, List.any_eq_false] at h2
  simpa using h2 f hf
theorem holds_array {n m : Nat} {t e : TypeId} (h : P.holdsStoodIn (n + 1) t = false) (hu : P.underlying t = some (.array m e)) : P.holdsStoodIn n e = false := by
  rw [Program.holdsStoodIn, hu] at h
  simp only [Bool.or_eq_false_iff] at h
  exact h.2
theorem flat_eq (hT : Tok P T) (q : Nat) (w : World) : ∀ (n : Nat) (t : TypeId) (ks : List CK), flatK T n t = some ks → P.holdsStoodIn n t = false → ∀ (X Y : Array Value) (off : Nat), Fits ks ((X.toList.drop off).take ks.length) → Fits ks ((Y.toList.drop off).take ks.length) →
    ∃ (r : Bool) (a b : Value), (part t X off).run P w = .ok a w ∧ (part t Y off).run P w = .ok b w ∧ (Op.equalIn (q + n) t a b).run P w = .ok r w ∧ (r = true ↔ (X.toList.drop off).take ks.length = (Y.toList.drop off).take ks.length)
  | 0, t, ks, h, _, _, _, _, _, _ => by cases h
  | n + 1, t, ks, h, hs, X, Y, off, fx, fy => by
    classical
    obtain ⟨i, hi, hu, hl⟩ := flatK_at h
    have hut := (hT t i hi).1
    have IH := flat_eq hT q w n
    rw [show q + (n + 1) = (q + n) + 1 by omega]
    cases hk : i.u with
    | int k =>
      rw [hk] at hu hut
      cases hu
      obtain ⟨x, hx1, hx2, ⟨a, rfl⟩⟩ := drop_one fx
      obtain ⟨y, hy1, hy2, ⟨b, rfl⟩⟩ := drop_one fy
      refine ⟨a == b, _, _, part_one hT hi (by rw [hk]; rfl) hx1, part_one hT hi (by rw [hk]; rfl) hy1, run_equalIn_int w _ t k k a b hut, ?_⟩
      simp only [List.length_cons, List.length_nil, Nat.zero_add]
      rw [hx2, hy2]
      simp
    | string =>
      rw [hk] at hu hut
      cases hu
      obtain ⟨x, hx1, hx2, ⟨a, rfl⟩⟩ := drop_one fx
      obtain ⟨y, hy1, hy2, ⟨b, rfl⟩⟩ := drop_one fy
      refine ⟨decide (a = b), _, _, part_one hT hi (by rw [hk]; rfl) hx1, part_one hT hi (by rw [hk]; rfl) hy1, by rw [run_equalIn_string w _ t a b hut, bytes_beq], ?_⟩
      simp only [List.length_cons, List.length_nil, Nat.zero_add]
      rw [hx2, hy2]
      simp
    | bool =>
      rw [hk] at hu hut
      cases hu
      obtain ⟨x, hx1, hx2, ⟨a, rfl⟩⟩ := drop_one fx
      obtain ⟨y, hy1, hy2, ⟨b, rfl⟩⟩ := drop_one fy
      refine ⟨a == b, _, _, part_one hT hi (by rw [hk]; rfl) hx1, part_one hT hi (by rw [hk]; rfl) hy1, run_equalIn_bool' w _ t a b hut, ?_⟩
      simp only [List.length_cons, List.length_nil, Nat.zero_add]
      rw [hx2, hy2]
      simp
    | array m e =>
      rw [hk] at hu hut
      rw [flatU] at hu
      cases he : flatK T n e with
      | none => rw [he] at hu; cases hu
      | some ke =>
        rw [he] at hu
        simp only [Option.some.injEq] at hu
        obtain ⟨j, hj, hlj⟩ : ∃ j, T.at e = some j ∧ ke.length = j.size := by
          cases n with
          | zero => cases he
          | succ n => obtain ⟨j, h1, _, h3⟩ := flatK_at he; exact ⟨j, h1, h3⟩
        have hse := holds_array hs hut
        have hlk : ks.length = m * ke.length := by rw [← hu]; simp
        refine ⟨(List.range' 0 m 1).all fun a => decide ((X.toList.drop (off + a * ke.length)).take ke.length = (Y.toList.drop (off + a * ke.length)).take ke.length), _, _, part_agg hT hi (by rw [hk]; rfl), part_agg hT hi (by rw [hk]; rfl), ?_, ?_⟩
        · have h3 : (sizeOf e).run P w = .ok ke.length w := by rw [hT.siz w hj, hlj]
          rw [Op.equalIn]
          simp only [Sem.run_bind, run_underlying hut, Result.andThen_ok, h3, Std.Legacy.Range.forIn_eq_forIn_range', Std.Legacy.Range.size, Nat.sub_zero, Nat.add_sub_cancel, Nat.div_one]
          have hlt : ∀ a ∈ List.range' 0 m 1, a < m := fun a ha => by simpa using (List.mem_range'_1.1 ha).2
          generalize List.range' 0 m 1 = l at hlt ⊢
          induction l with
          | nil => simp
          | cons a l ih =>
            have ha : a < m := hlt a (by simp)
            have hcut : ∀ Z : Array Value, ((Z.extract off (off + i.size)).toList.drop (a * ke.length)).take ke.length = (Z.toList.drop (off + a * ke.length)).take ke.length := fun Z => by
              rw [extract_list, ← hl, hlk, List.drop_take, List.take_take, List.drop_drop, Nat.min_eq_left]
              have := Nat.mul_le_mul_right ke.length (show a + 1 ≤ m from ha)
              rw [Nat.add_mul] at this
              omega
            have hfit : ∀ Z : Array Value, Fits ks ((Z.toList.drop off).take ks.length) → Fits ke (((Z.extract off (off + i.size)).toList.drop (a * ke.length)).take ke.length) := fun Z hz => by
              have hz2 : Fits (List.replicate m ke).flatten ((Z.toList.drop off).take ks.length) := by rw [hu]; exact hz
              have := hz2.rep m a ha
              rwa [extract_list, ← hl]
            obtain ⟨r, va, vb, p1, p2, p3, p4⟩ := IH e ke he hse (X.extract off (off + i.size)) (Y.extract off (off + i.size)) (a * ke.length) (hfit X fx) (hfit Y fy)
            rw [hcut X, hcut Y] at p4
            have hr : r = decide ((X.toList.drop (off + a * ke.length)).take ke.length = (Y.toList.drop (off + a * ke.length)).take ke.length) := by
              rw [Bool.eq_iff_iff, p4, decide_eq_true_iff]
            subst hr
            simp only [List.forIn_cons, Sem.run_bind, p1, p2, p3, Result.andThen_ok, List.all_cons]
            cases hb : decide ((X.toList.drop (off + a * ke.length)).take ke.length = (Y.toList.drop (off + a * ke.length)).take ke.length)
            · simp
            · simp only [Bool.not_true, Bool.false_eq_true, if_false, Sem.run_pure, Result.andThen_ok, Bool.true_and]
              exact ih fun b hb => hlt b (by simp [hb])
        · rw [List.all_eq_true, ← chunks_eq m _ _ (by rw [fx.length, hlk]) (by rw [fy.length, hlk])]
          have hcut : ∀ (Z : Array Value) (a : Nat), a < m → (((Z.toList.drop off).take ks.length).drop (a * ke.length)).take ke.length = (Z.toList.drop (off + a * ke.length)).take ke.length := fun Z a ha => by
            rw [hlk, List.drop_take, List.take_take, List.drop_drop, Nat.min_eq_left]
            have := Nat.mul_le_mul_right ke.length (show a + 1 ≤ m from ha)
            rw [Nat.add_mul] at this
            omega
          constructor
          · intro hall a ha
            rw [hcut X a ha, hcut Y a ha]
            exact of_decide_eq_true (hall a (by rw [List.mem_range'_1]; omega))
          · intro hall a ha
            have ha : a < m := by simpa using (List.mem_range'_1.1 ha).2
            have := hall a ha
            rw [hcut X a ha, hcut Y a ha] at this
            exact decide_eq_true this
    | struct fs =>
      rw [hk] at hu hut
      rw [flatU] at hu
      obtain ⟨hst, hsf⟩ := holds_struct hs hut
      have hfo : P.fieldsOf t = fs := by unfold Program.fieldsOf; rw [hut]
      have key : ∀ (l : List Field) (o : Nat) (kf : List CK), flatF (flatK T n) o l = some kf → (∀ f ∈ l, P.holdsStoodIn n f.type = false) → ∀ X Y : Array Value, Fits kf ((X.toList.drop o).take kf.length) → Fits kf ((Y.toList.drop o).take kf.length) →
          ∃ r : Bool, (Op.eqFields (q + n) X Y l).run P w = .ok r w ∧ (r = true ↔ (X.toList.drop o).take kf.length = (Y.toList.drop o).take kf.length) := by
        intro l
        induction l with
        | nil => intro o kf hf _ X Y _ _; cases hf; exact ⟨true, by simp [Op.eqFields], by simp⟩
        | cons f l ih =>
          intro o kf hf hsl X Y gx gy
          rw [flatF] at hf
          split at hf
          · rename_i hc
            obtain ⟨ho, hn⟩ := hc
            cases e1 : flatK T n f.type with
            | none => rw [e1] at hf; cases hf
            | some k1 =>
              rw [e1] at hf
              simp only at hf
              cases e2 : flatF (flatK T n) (o + k1.length) l with
              | none => rw [e2] at hf; cases hf
              | some k2 =>
                rw [e2] at hf
                cases hf
                rw [List.length_append, take_split] at gx gy ⊢
                rw [take_split]
                have l1 : ∀ {Z : Array Value}, Fits (k1 ++ k2) ((Z.toList.drop o).take k1.length ++ (Z.toList.drop (o + k1.length)).take k2.length) → Fits k1 ((Z.toList.drop o).take k1.length) ∧ Fits k2 ((Z.toList.drop (o + k1.length)).take k2.length) := fun {Z} g => by
                  have gl := g.length
                  have e3 : ((Z.toList.drop o).take k1.length).length = k1.length := by
                    rw [List.length_append, List.length_append, List.length_take, List.length_take] at gl
                    rw [List.length_take]
                    omega
                  rw [Fits.append] at g
                  rw [List.take_left' e3, List.drop_left' e3] at g
                  exact g
                obtain ⟨gx1, gx2⟩ := l1 gx
                obtain ⟨gy1, gy2⟩ := l1 gy
                obtain ⟨r, a, b, p1, p2, p3, p4⟩ := IH f.type k1 e1 (hsl f (by simp)) X Y o gx1 gy1
                obtain ⟨r2, p5, p6⟩ := ih _ _ e2 (fun g hg => hsl g (by simp [hg])) X Y gx2 gy2
                subst ho
                have hlen : ((X.toList.drop f.offset).take k1.length).length = ((Y.toList.drop f.offset).take k1.length).length := by rw [gx1.length, gy1.length]
                refine ⟨r && r2, ?_, ?_⟩
                · rw [Op.eqFields, if_pos hn]
                  simp only [Sem.run_bind, p1, p2, p3, Result.andThen_ok]
                  cases r
                  · simp
                  · simpa using p5
                · rw [Bool.and_eq_true, p4, p6]
                  constructor
                  · rintro ⟨h1, h2⟩; rw [h1, h2]
                  · intro h; exact List.append_inj h hlen
          · cases hf
      have hcut : ∀ Z : Array Value, ((Z.extract off (off + i.size)).toList.drop 0).take ks.length = (Z.toList.drop off).take ks.length := fun Z => by
        rw [extract_list, List.drop_zero, List.take_take, hl, Nat.min_self]
      obtain ⟨r, p1, p2⟩ := key fs.toList 0 ks hu hsf (X.extract off (off + i.size)) (Y.extract off (off + i.size)) (by rw [hcut]; exact fx) (by rw [hcut]; exact fy)
      rw [hcut, hcut] at p2
      refine ⟨r, _, _, part_agg hT hi (by rw [hk]; rfl), part_agg hT hi (by rw [hk]; rfl), ?_, p2⟩
      rw [run_equalIn_struct w (q + n) t _ _ (by rw [hfo]; exact hut) hst, hfo]
      exact p1
    | _ => rw [hk] at hu; cases hu
/-- Whole values are equal if their cells are. -/
theorem flat_equal (hT : Tok P T) {n : Nat} {t : TypeId} {i : TI} {ks : List CK} (hk : flatK T n t = some ks) (hn : Nat.ble n 10000 = true) (hs : P.holdsStoodIn n t = false) (hi : T.at t = some i) (ha : isAggB i.u = true) (w : World) {xs ys : List Value} (fx : Fits ks xs) (fy : Fits ks ys) :
    ∃ r : Bool, (Op.equalIn 10000 t (.agg xs.toArray) (.agg ys.toArray)).run P w = .ok r w ∧ (r = true ↔ xs = ys) := by
  have hn := Nat.le_of_ble_eq_true hn
  have hl : ks.length = i.size := by
    cases n with
    | zero => cases hk
    | succ n => obtain ⟨j, h1, _, h3⟩ := flatK_at hk; rw [hi] at h1; cases h1; exact h3
  have ex : (xs.toArray.toList.drop 0).take ks.length = xs := by simp [← fx.length]
  have ey : (ys.toArray.toList.drop 0).take ks.length = ys := by simp [← fy.length]
  obtain ⟨r, a, b, p1, p2, p3, p4⟩ := flat_eq hT (10000 - n) w n t ks hk hs xs.toArray ys.toArray 0 (by rw [ex]; exact fx) (by rw [ey]; exact fy)
  rw [ex, ey] at p4
  have q1 : ∀ zs : List Value, Fits ks zs → zs.toArray.extract 0 (0 + i.size) = zs.toArray := fun zs hz => by
    have := hz.length
    apply Array.ext'
    rw [extract_list, ← hl, List.drop_zero]
    simp [← this]
  have p1' := part_agg hT (w := w) (X := xs.toArray) (off := 0) hi ha
  have p2' := part_agg hT (w := w) (X := ys.toArray) (off := 0) hi ha
  rw [p1] at p1'
  rw [p2] at p2'
  rw [q1 xs fx] at p1'
  rw [q1 ys fy] at p2'
  simp only [Result.ok.injEq, and_true] at p1' p2'
  subst p1' p2'
  rw [show 10000 - n + n = 10000 by omega] at p3
  exact ⟨r, p3, p4⟩
end
section
variable {P : Program} {E : World} {n : Nat} {ds : List Deferred} {env : Fr} {l : List HProp} {T : Tab}
variable {dst : Option Tmp} {ty : TypeId} {pos : String} {af : Array Edge} {gd : Option (Nat × Bool)} {x y : Operand} {t t' : TypeId}
/-- Two values of many cells are compared. -/
theorem y_flat_eq (hT : Tok P T) {m : Nat} {i : TI} {ks : List CK} {xs ys : List Value} {b : Bool} (hk : flatK T m t = some ks) (hn : Nat.ble m 10000 = true) (hs : P.holdsStoodIn m t = false) (hg : P.eqGuardType P.depth t = false) (hi : T.at t = some i) (ha : isAggB i.u = true)
    (hx : val env x = some (.agg xs.toArray)) (hy : val env y = some (.agg ys.toArray)) (fx : Fits ks xs) (fy : Fits ks ys) (hb : b = true ↔ xs = ys) :
    Y P E n ds ⟨dst, .binOp .eql t x y t', ty, pos, af, gd⟩ env l (.bool b) :=
  Y.of fun a w hf _ => by
    obtain ⟨r, p1, p2⟩ := flat_equal hT hk hn hs hi ha w fx fy
    have e : r = b := by rw [Bool.eq_iff_iff, p2, hb]
    subst e
    simp only [execOp, hf.eval hx, hf.eval hy, Sem.run_bind, run_eqGuard_agg w _ t x y _ _ hg, Result.andThen_ok, run_eql_struct, p1, Sem.run_pure]
theorem y_flat_ne (hT : Tok P T) {m : Nat} {i : TI} {ks : List CK} {xs ys : List Value} {b : Bool} (hk : flatK T m t = some ks) (hn : Nat.ble m 10000 = true) (hs : P.holdsStoodIn m t = false) (hg : P.eqGuardType P.depth t = false) (hi : T.at t = some i) (ha : isAggB i.u = true)
    (hx : val env x = some (.agg xs.toArray)) (hy : val env y = some (.agg ys.toArray)) (fx : Fits ks xs) (fy : Fits ks ys) (hb : b = true ↔ ¬ xs = ys) :
    Y P E n ds ⟨dst, .binOp .neq t x y t', ty, pos, af, gd⟩ env l (.bool b) :=
  Y.of fun a w hf _ => by
    obtain ⟨r, p1, p2⟩ := flat_equal hT hk hn hs hi ha w fx fy
    have e : (!r) = b := by rw [Bool.eq_iff_iff, hb, ← p2]; cases r <;> simp
    subst e
    simp only [execOp, hf.eval hx, hf.eval hy, Sem.run_bind, run_eqGuard_agg w _ t x y _ _ hg, Result.andThen_ok, run_neq_struct, p1, Sem.run_pure]
end
end Go.SL
namespace Go.SL
open Go Go.RowKit
/-! strings.Builder: pointers seen as unsafe ones, a text out of a buffer. -/
section
variable {P : Program} {E : World} {n : Nat} {ds : List Deferred} {env : Fr} {l r : List HProp} {T : Tab} {N : Fr → List HProp → Prop}
variable {dst : Option Tmp} {d : Tmp} {ty : TypeId} {pos : String} {af : Array Edge} {gd : Option (Nat × Bool)} {x y : Operand} {t t' : TypeId}
theorem y_toUns (hT : Tok P T) {i : TI} {e e' : TypeId} {b : Nat} {cs : List Value} (hs : P.underlying t = some (.pointer e)) (hd : P.underlying t' = some .unsafePointer) (hi : T.at e = some i) (hz : Nat.beq i.size 0 = false)
    (hp : Pick l (row b e' cs) r) (ho : 0 < cs.length) (hx : val env x = some (.pointer (some ⟨b, 0, none⟩))) :
    Y P E n ds ⟨dst, .convert t t' x, ty, pos, af, gd⟩ env l (.pointer (some ⟨b, 0, none⟩)) :=
  Y.of fun a w hf hsat => by
    obtain ⟨_, j, hj, hsz, _, _⟩ := hT e i hi
    have h := Lib.run_to_unsafe (P := P) w ⟨b, 0, none⟩ hs hd hj (by rw [hsz]; intro q; rw [q] at hz; cases hz) (hsat.pick hp).shape ho
    simp only [execOp, hf.eval hx]
    simp [h]
theorem y_fromUns {u e' : TypeId} {i : TI} {b m : Nat} {cs : List Value} (hT : Tok P T) (hs : P.underlying t = some .unsafePointer) (hd : P.underlying t' = some (.pointer u)) (hi : T.at u = some i)
    (hp : Pick l (row b e' cs) r) (hm : cs.length = m) (hl : liesAt P P.depth e' (m / P.cellsOf e') 0 u 1 = true) (hx : val env x = some (.pointer (some ⟨b, 0, none⟩))) :
    Y P E n ds ⟨dst, .convert t t' x, ty, pos, af, gd⟩ env l (.pointer (some ⟨b, 0, none⟩)) :=
  Y.of fun a w hf hsat => by
    obtain ⟨_, j, hj, _, _, _⟩ := hT u i hi
    have h := Lib.run_from_unsafe (P := P) w ⟨b, 0, none⟩ hs hd hj (hsat.pick hp).shape (by rw [hm]; exact hl)
    simp only [execOp, hf.eval hx]
    simp [h]
theorem y_sliceData {p : Addr} {k c : Nat} {ts : Array TypeId} (hx : val env x = some (.slice (some p) k c)) (hc : c ≠ 0) :
    Y P E n ds ⟨dst, .call ⟨.builtin .unsafeSliceData, #[x], ts⟩, ty, pos, af, gd⟩ env l (.pointer (some p)) :=
  Y.of fun a w hf _ => by
    have h := Lib.run_unsafeSliceData_row (P := P) w ts ty p k c hc
    simp [execOp, resolve, hf.eval hx, invoke, builtin, h]
theorem l_unsafeString {pt it e : TypeId} {g k cap : Nat} {xs : List Int} (hB : Bys xs) (hpt : P.underlying pt = some (.pointer e)) (hc : P.cellsOf e = 1) (hk : xs.length = k) (h1 : 1 ≤ k)
    (hp : Pick l (own e 1 (.slice (some ⟨g, 0, none⟩) k cap) k (xs.map (Value.int .u8))) r)
    (hx : val env x = some (.pointer (some ⟨g, 0, none⟩))) (hy : val env y = some (.int .i64 k)) (hn : Nat.blt d n = true) (hN : N ((d, .string (strOf xs)) :: env) r) :
    LS P E n ds ⟨some d, .call ⟨.builtin .unsafeString, #[x, y], #[pt, it]⟩, ty, pos, af, gd⟩ env l N :=
  LS.of hn rfl fun a w hf hs => by
    obtain ⟨hl, ⟨hh, _⟩ | ⟨g', cap', cur, he, h2, h3, h4, h5, s⟩⟩ := (hs.pick hp).own_open
    · cases hh
    · cases he
      have hb := s.block
      have hsh := s.shape
      have hlen : ((strOf xs).data.toList).length = k := by rw [strOf_data, List.length_map, hk]
      have hcell : ∀ j u, (strOf xs).data.toList[j]? = some u → w.cell? ((⟨g, 0, none⟩ : Addr).add j) = some (.int .u8 u.toNat) := by
        intro j u hj
        rw [strOf_data, List.getElem?_map] at hj
        cases hz : xs[j]? with
        | none => rw [hz] at hj; cases hj
        | some z =>
          rw [hz] at hj
          have hz2 := hB.get hz
          have hj : UInt8.ofNat z.toNat = u := Option.some.inj hj
          have hlt : j < k := by rw [← hk]; exact (List.getElem?_eq_some_iff.1 hz).1
          have hcj : cur[j]? = some (.int .u8 z) := by
            have h6 : (cur.take (k * 1))[j]? = some (.int .u8 z) := by rw [h5, List.getElem?_map, hz]; rfl
            rwa [List.getElem?_take_of_lt (by omega)] at h6
          have e1 : ((⟨g, 0, none⟩ : Addr).add j) = ⟨g, j, none⟩ := by
            simp [Addr.add]
            try omega
          rw [e1, Lib.cell_of_heap hb]
          rw [show cur.toArray[j]? = cur[j]? by simp, hcj, ← hj, UInt8.toNat_ofNat_of_lt' (by show z.toNat < 256; omega)]
          congr 2
          omega
      have hrun := Lib.run_unsafeString_row (P := P) w pt it ty e hpt hc g cur.length hsh (strOf xs).data.toList (by intro q; rw [q] at hlen; simp at hlen; omega) (by omega) (by unfold maxLen at h3; omega) hcell
      have hmk : (⟨(strOf xs).data.toList.toArray⟩ : ByteArray) = strOf xs := by simp
      rw [hlen, hmk] at hrun
      refine ⟨.string (strOf xs), w.freeze ⟨g, 0, none⟩ k, r, ?_, ?_, hN⟩
      rotate_left
      · unfold World.freeze
        rw [if_neg (by omega)]
        have ht := s.turn (w' := { w with heap := w.heap.modify g fun
            | .cells c elem (lo, hi) => .cells c elem (if lo == hi then (0, 0 + k) else (min lo 0, max hi (0 + k)))
            | o => o }) rfl rfl rfl (by rw [Array.getElem?_modify, if_pos rfl, hb]; rfl) (fun j hj => by rw [Array.getElem?_modify, if_neg (Ne.symm hj)])
        exact ht.drop
      · simp [execOp, resolve, hf.eval hx, hf.eval hy, invoke, builtin, hrun]
end
section
variable {α : Type} [DecidableEq α] {enc : α → Value} {ok : α → Prop}
variable {P : Program} {E : World} {n : Nat} {ds : List Deferred} {env : Fr} {l r : List HProp} {T : Tab} {N : Fr → List HProp → Prop}
variable {d : Tmp} {dst : Option Tmp} {ty : TypeId} {pos : String} {af : Array Edge} {gd : Option (Nat × Bool)} {x y z : Operand} {v u zv : Value} {t t' kt et : TypeId}
theorem l_insert {i : TI} {b : Nat} {m : List (α × Value)} {a : α} {kv : Value} (hT : Tok P T) (hi : T.at t = some i) (hk : i.u = .map kt et) (K : KeyOk P kt enc ok)
    (hx : val env x = some (.map (some b))) (hy : val env y = some kv) (hkv : kv = enc a) (hz : val env z = some v) (ha : ok a) (hp : Pick l (mapA enc ok b m) r)
    (h : N env (mapA enc ok b (mput m a v) :: r)) : LS P E n ds ⟨none, .insert t x y z, ty, pos, af, gd⟩ env l N :=
  LS.of0 rfl fun ac w hf hs => by
    subst hkv
    obtain ⟨es, clock, hm, s⟩ := (hs.pick hp).map_open
    have hb := s.block
    have h1 := hT.und w hi
    rw [hk] at h1
    have h3 := K.run w ha es m hm.kv hm.oks
    have h4 := K.chk w false a ha
    cases hq : mfind m a 0 with
    | none =>
      rw [hq] at h3
      refine ⟨_, _, ?_, Sat.map_shut (hm.push (v := v) ha) (s.setBlock (.map (es ++ [MapEntry.mk (enc a) v clock]).toArray (clock + 1))), by rw [← (mfind_none m a 0 hq).1 v]; exact h⟩
      simp only [execOp, hf.eval hx, hf.eval hy, hf.eval hz, Instr.mapUpdate, Sem.run_bind, h1, Result.andThen_ok, run_getObj_b hb, h4, h3]
      rw [run_setObj_b hb]
      simp
    | some q =>
      obtain ⟨j, u⟩ := q
      rw [hq] at h3
      obtain ⟨_, u', h5, _, h6⟩ := mfind_at m a 0 j u hq
      rw [Nat.sub_zero] at h5 h6
      have hej : ∃ e, es[j]? = some e ∧ e.key = enc a := by
        have hz := congrArg (fun (z : List (Value × Value)) => z[j]?) hm.kv
        simp only [List.getElem?_map, h5] at hz
        cases he : es[j]? with
        | none => rw [he] at hz; cases hz
        | some e =>
          rw [he] at hz
          simp only [Option.map_some, Option.some.injEq, Prod.mk.injEq] at hz
          exact ⟨e, rfl, hz.1⟩
      obtain ⟨e, he, hek⟩ := hej
      refine ⟨_, _, ?_, Sat.map_shut (hm.put_at (v := v) h5) (s.setBlock (.map (es.modify j fun e => { e with key := enc a, val := v }).toArray clock)), by rw [← (h6 v).1]; exact h⟩
      simp only [execOp, hf.eval hx, hf.eval hy, hf.eval hz, Instr.mapUpdate, Sem.run_bind, h1, Result.andThen_ok, run_getObj_b hb, h4, h3]
      have e1 : (((es.toArray[j]?).map (·.key)).getD (enc a)) = enc a := by simp [he, hek]
      rw [e1]
      simp only [Instr.keyThatStays, K.same a ha, if_true, Sem.run_pure, Result.andThen_ok]
      rw [run_setObj_b hb]
      simp [List.modify_toArray]
end
end Go.SL
namespace Go.SL
open Go Go.RowKit
section
variable {P : Program} {E : World} {n : Nat} {ds : List Deferred} {env : Fr} {l : List HProp}
variable {dst : Option Tmp} {ty : TypeId} {pos : String} {af : Array Edge} {gd : Option (Nat × Bool)} {x y z : Operand}
end
/-- A slice of two elements that are given whole. -/
theorem fill_two {size : Nat} {zc v u : Value} {cs ds : List Value} (hv : v.cells = cs.toArray) (hl : cs.length = size) (hu : u.cells = ds.toArray) (hl2 : ds.length = size) : Instr.fill (fun i => some (i * size, size)) ((Array.range (2 * size)).map (zc.cells[· % zc.cells.size]!)) [(0, v), (1, u)] = some (cs ++ ds).toArray := by
  have h := fill_eq (fun i => some (i * size, size)) [(0, size), (size, size)] [(0, v), (1, u)] ((Array.range (2 * size)).map (zc.cells[· % zc.cells.size]!)).toList (fun q hq => by simp at hq; rcases hq with rfl | rfl <;> simp) (by simp [fillOk, hv, hl, hu, hl2]; omega)
  have e : ((Array.range (2 * size)).map (zc.cells[· % zc.cells.size]!)).toList.toArray = (Array.range (2 * size)).map (zc.cells[· % zc.cells.size]!) := rfl
  rw [e] at h
  rw [h]
  obtain ⟨zs, hz⟩ : ∃ zs, ((Array.range (2 * size)).map (zc.cells[· % zc.cells.size]!)).toList = zs := ⟨_, rfl⟩
  have hzl : zs.length = 2 * size := by rw [← hz]; simp
  rw [hz]
  simp only [List.map_cons, List.map_nil, hv, hu, fillE, List.getElem?_cons_zero, List.getElem?_cons_succ, List.take_zero, List.nil_append, Nat.zero_add]
  congr 2
  rw [List.take_append_of_le_length (by omega), List.take_of_length_le (by omega), List.drop_of_length_le (by rw [List.length_append, List.length_drop]; omega)]
  simp
end Go.SL
namespace Go.SL
open Go Go.RowKit
section
variable {P : Program} {E : World} {n : Nat} {ds : List Deferred} {env : Fr} {l r : List HProp} {T : Tab} {N : Fr → List HProp → Prop}
variable {d : Tmp} {ty : TypeId} {pos : String} {af : Array Edge} {gd : Option (Nat × Bool)} {x y : Operand} {v : Value} {t : TypeId}
end
end Go.SL
