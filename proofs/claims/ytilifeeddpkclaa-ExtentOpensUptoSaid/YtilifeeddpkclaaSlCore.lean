import Derived.WalkKit
namespace Go.SL
open Go Go.RowKit

abbrev Hp := Nat → Option Obj
abbrev HProp := Hp → Prop

def Hp.disj (h1 h2 : Hp) : Prop := ∀ k, h1 k = none ∨ h2 k = none
def Hp.un (h1 h2 : Hp) : Hp := fun k => match h1 k with | some o => some o | none => h2 k
def Hp.empty : Hp := fun _ => none
def Hp.single (b : Nat) (o : Obj) : Hp := fun k => if k = b then some o else none

def emp : HProp := fun h => h = Hp.empty
def star (A B : HProp) : HProp := fun h => ∃ h1 h2, Hp.disj h1 h2 ∧ h = Hp.un h1 h2 ∧ A h1 ∧ B h2
def stars : List HProp → HProp
  | [] => emp
  | A :: l => star A (stars l)
def blk (b : Nat) (o : Obj) : HProp := fun h => h = Hp.single b o
/-- A row of cells that nobody froze. -/
def row (b : Nat) (e : TypeId) (cs : List Value) : HProp := blk b (.cells cs.toArray e (0, 0))
def ex {α : Type} (F : α → HProp) : HProp := fun h => ∃ x, F x h
/-- The whole heap of a world, as it was. -/
def old (w0 : World) : HProp := fun h => ∀ k, h k = w0.heap[k]?
def pur (p : Prop) : HProp := fun h => p ∧ h = Hp.empty

theorem un_empty_left (h : Hp) : Hp.un Hp.empty h = h := by funext k; simp [Hp.un, Hp.empty]
theorem un_empty_right (h : Hp) : Hp.un h Hp.empty = h := by funext k; simp only [Hp.un, Hp.empty]; cases h k <;> rfl
theorem disj_comm {h1 h2 : Hp} (d : Hp.disj h1 h2) : Hp.disj h2 h1 := fun k => (d k).symm
theorem un_comm {h1 h2 : Hp} (d : Hp.disj h1 h2) : Hp.un h1 h2 = Hp.un h2 h1 := by
  funext k; have := d k; simp only [Hp.un]; cases e1 : h1 k <;> cases e2 : h2 k <;> simp_all
theorem un_assoc (a b c : Hp) : Hp.un (Hp.un a b) c = Hp.un a (Hp.un b c) := by
  funext k; simp only [Hp.un]; cases a k <;> rfl
theorem disj_un_left {a b c : Hp} (h : Hp.disj (Hp.un a b) c) : Hp.disj a c ∧ Hp.disj b c := by
  constructor <;> intro k <;> have := h k <;> simp only [Hp.un] at this <;> cases e1 : a k <;> cases e2 : c k <;> simp_all
theorem disj_un_right {a b c : Hp} (h : Hp.disj a (Hp.un b c)) : Hp.disj a b ∧ Hp.disj a c := by
  have := disj_un_left (disj_comm h); exact ⟨disj_comm this.1, disj_comm this.2⟩
theorem disj_un_mk {a b c : Hp} (h1 : Hp.disj a c) (h2 : Hp.disj b c) : Hp.disj (Hp.un a b) c := by
  intro k; have h1 := h1 k; have h2 := h2 k; simp only [Hp.un]; cases e1 : a k <;> cases e2 : c k <;> simp_all
theorem disj_un_mk' {a b c : Hp} (h1 : Hp.disj a b) (h2 : Hp.disj a c) : Hp.disj a (Hp.un b c) := disj_comm (disj_un_mk (disj_comm h1) (disj_comm h2))

theorem star_comm {A B : HProp} {h : Hp} (s : star A B h) : star B A h := by
  obtain ⟨h1, h2, d, rfl, a, b⟩ := s; exact ⟨h2, h1, disj_comm d, un_comm d, b, a⟩
theorem star_assoc {A B C : HProp} {h : Hp} (s : star (star A B) C h) : star A (star B C) h := by
  obtain ⟨h12, h3, d, rfl, ⟨h1, h2, d', rfl, a, b⟩, c⟩ := s
  have := disj_un_left d
  exact ⟨h1, Hp.un h2 h3, disj_un_mk' d' this.1, un_assoc _ _ _, a, h2, h3, this.2, rfl, b, c⟩
theorem star_assoc' {A B C : HProp} {h : Hp} (s : star A (star B C) h) : star (star A B) C h := by
  obtain ⟨h1, h23, d, rfl, a, h2, h3, d', rfl, b, c⟩ := s
  have := disj_un_right d
  exact ⟨Hp.un h1 h2, h3, disj_un_mk this.2 d', (un_assoc _ _ _).symm, ⟨h1, h2, this.1, rfl, a, b⟩, c⟩
theorem star_mono {A A' B B' : HProp} {h : Hp} (f : ∀ h, A h → A' h) (g : ∀ h, B h → B' h) (s : star A B h) : star A' B' h := by
  obtain ⟨h1, h2, d, e, a, b⟩ := s; exact ⟨h1, h2, d, e, f _ a, g _ b⟩
theorem star_swap {A B C : HProp} {h : Hp} (s : star A (star B C) h) : star B (star A C) h :=
  star_assoc (star_mono (fun _ s => star_comm s) (fun _ s => s) (star_assoc' s))
theorem star_emp {A : HProp} {h : Hp} (s : star A emp h) : A h := by
  obtain ⟨h1, h2, _, rfl, a, e⟩ := s; rw [e, un_empty_right]; exact a
theorem star_emp' {A : HProp} {h : Hp} (s : A h) : star A emp h :=
  ⟨h, Hp.empty, fun _ => .inr rfl, (un_empty_right h).symm, s, rfl⟩

theorem stars_append (l m : List HProp) (h : Hp) : stars (l ++ m) h ↔ star (stars l) (stars m) h := by
  induction l generalizing h with
  | nil =>
    constructor
    · intro s; exact ⟨Hp.empty, h, fun _ => .inl rfl, (un_empty_left h).symm, rfl, s⟩
    · rintro ⟨h1, h2, _, rfl, e, s⟩; rw [e, un_empty_left]; exact s
  | cons A l ih =>
    constructor
    · intro s; exact star_assoc' (star_mono (fun _ a => a) (fun h' s => (ih h').1 s) s)
    · intro s; exact star_mono (fun _ a => a) (fun h' s => (ih h').2 s) (star_assoc s)

/-- 'l' is 'A' and 'r'. -/
inductive Pick : List HProp → HProp → List HProp → Prop where
  | head {A : HProp} {l : List HProp} : Pick (A :: l) A l
  | tail {A B : HProp} {l r : List HProp} : Pick l A r → Pick (B :: l) A (B :: r)
/-- 'l' is 'p' and 'r'. -/
inductive Split : List HProp → List HProp → List HProp → Prop where
  | nil {l : List HProp} : Split l [] l
  | cons {A : HProp} {l m p r : List HProp} : Pick l A m → Split m p r → Split l (A :: p) r

theorem Pick.iff {l r : List HProp} {A : HProp} (p : Pick l A r) (h : Hp) : stars l h ↔ stars (A :: r) h := by
  induction p generalizing h with
  | head => exact Iff.rfl
  | tail _ ih =>
    constructor
    · intro s; exact star_swap (star_mono (fun _ a => a) (fun h' s => (ih h').1 s) s)
    · intro s; exact star_mono (fun _ a => a) (fun h' s => (ih h').2 s) (star_swap s)
theorem Split.iff {l p r : List HProp} (s : Split l p r) (h : Hp) : stars l h ↔ stars (p ++ r) h := by
  induction s generalizing h with
  | nil => exact Iff.rfl
  | cons p _ ih =>
    rw [p.iff h]
    constructor
    · intro s; exact star_mono (fun _ a => a) (fun h' s => (ih h').1 s) s
    · intro s; exact star_mono (fun _ a => a) (fun h' s => (ih h').2 s) s

/-- What a world is like: the streams of E, and a part of the heap that A tells. -/
structure Sat (E : World) (A : HProp) (w : World) : Prop where
  os : w.os = E.os
  tape : w.tape = E.tape
  output : w.output = E.output
  heap : ∃ h : Hp, (∀ k o, h k = some o → w.heap[k]? = some o) ∧ A h

theorem Sat.imp {E w : World} {A B : HProp} (s : Sat E A w) (f : ∀ h, A h → B h) : Sat E B w :=
  ⟨s.os, s.tape, s.output, let ⟨h, hs, a⟩ := s.heap; ⟨h, hs, f _ a⟩⟩
theorem Sat.pick {E w : World} {l r : List HProp} {A : HProp} (s : Sat E (stars l) w) (p : Pick l A r) : Sat E (stars (A :: r)) w := s.imp fun h => (p.iff h).1
theorem Sat.unpick {E w : World} {l r : List HProp} {A : HProp} (s : Sat E (stars (A :: r)) w) (p : Pick l A r) : Sat E (stars l) w := s.imp fun h => (p.iff h).2
theorem Sat.divide {E w : World} {l p r : List HProp} (s : Sat E (stars l) w) (hp : Split l p r) : Sat E (stars (p ++ r)) w := s.imp fun h => (hp.iff h).1
theorem Sat.drop {E w : World} {l : List HProp} {A : HProp} (s : Sat E (stars (A :: l)) w) : Sat E (stars l) w :=
  ⟨s.os, s.tape, s.output, by
    obtain ⟨h, hs, h1, h2, d, rfl, _, b⟩ := s.heap
    refine ⟨h2, fun k o e => hs k o ?_, b⟩
    have := d k; simp only [Hp.un]; cases e1 : h1 k <;> simp_all⟩
theorem Sat.drew {E w : World} {A : HProp} (s : Sat E A w) : Sat E A w.drew := ⟨s.os, s.tape, s.output, s.heap⟩
theorem Sat.drawn {E w : World} {A : HProp} (s : Sat E A w) (n : Nat) : Sat E A { w with drawn := n } := ⟨s.os, s.tape, s.output, s.heap⟩
theorem Sat.ofex {E w : World} {l : List HProp} {α : Type} {F : α → HProp} (s : Sat E (stars (ex F :: l)) w) : ∃ x, Sat E (stars (F x :: l)) w := by
  obtain ⟨h, hs, h1, h2, d, rfl, ⟨x, a⟩, b⟩ := s.heap
  exact ⟨x, s.os, s.tape, s.output, _, hs, h1, h2, d, rfl, a, b⟩
theorem Sat.toex {E w : World} {l : List HProp} {α : Type} {F : α → HProp} (x : α) (s : Sat E (stars (F x :: l)) w) : Sat E (stars (ex F :: l)) w :=
  s.imp fun _ s => star_mono (fun _ a => ⟨x, a⟩) (fun _ b => b) s
theorem Sat.ofpur {E w : World} {l : List HProp} {p : Prop} (s : Sat E (stars (pur p :: l)) w) : p ∧ Sat E (stars l) w := by
  refine ⟨?_, s.drop⟩
  obtain ⟨h, hs, h1, h2, d, rfl, a, b⟩ := s.heap
  exact a.1
theorem Sat.topur {E w : World} {l : List HProp} {p : Prop} (hp : p) (s : Sat E (stars l) w) : Sat E (stars (pur p :: l)) w :=
  s.imp fun h s => ⟨Hp.empty, h, fun _ => .inl rfl, (un_empty_left h).symm, ⟨hp, rfl⟩, s⟩
theorem Sat.unfold {E w : World} {l m : List HProp} (s : Sat E (stars (stars m :: l)) w) : Sat E (stars (m ++ l)) w := s.imp fun h => (stars_append m l h).2
theorem Sat.fold {E w : World} {l m : List HProp} (s : Sat E (stars (m ++ l)) w) : Sat E (stars (stars m :: l)) w := s.imp fun h => (stars_append m l h).1

theorem Sat.block {E w : World} {l : List HProp} {b : Nat} {o : Obj} (s : Sat E (stars (blk b o :: l)) w) : w.heap[b]? = some o := by
  obtain ⟨h, hs, h1, h2, d, rfl, a, _⟩ := s.heap
  refine hs b o ?_
  have a : h1 = _ := a
  simp [Hp.un, a, Hp.single]
theorem Sat.elder {E w w0 : World} {l : List HProp} (s : Sat E (stars (old w0 :: l)) w) {b : Nat} {o : Obj} (ho : w0.heap[b]? = some o) : w.heap[b]? = some o := by
  obtain ⟨h, hs, h1, h2, d, rfl, a, _⟩ := s.heap
  refine hs b o ?_
  have a : h1 b = _ := a b
  simp [Hp.un, a, ho]

/-- A new block. -/
theorem Sat.alloc {E w : World} {l : List HProp} (s : Sat E (stars l) w) (o : Obj) : Sat E (stars (blk w.heap.size o :: l)) (w.alloc o) := by
  refine ⟨s.os, s.tape, s.output, ?_⟩
  obtain ⟨h, hs, a⟩ := s.heap
  have hn : ∀ k, h k ≠ none → k < w.heap.size := by
    intro k hk
    cases e : h k with
    | none => exact (hk e).elim
    | some o' => exact (Array.getElem?_eq_some_iff.1 (hs k o' e)).1
  refine ⟨Hp.un (Hp.single w.heap.size o) h, ?_, Hp.single w.heap.size o, h, ?_, rfl, rfl, a⟩
  · intro k o' e
    show (w.heap.push o)[k]? = some o'
    simp only [Hp.un, Hp.single] at e
    by_cases hk : k = w.heap.size
    · rw [if_pos hk] at e; cases e; rw [hk]; simp
    · rw [if_neg hk] at e
      have := hs k o' e
      rw [Array.getElem?_push, if_neg (by omega)]; exact this
  · intro k
    by_cases hk : k = w.heap.size
    · right
      cases e : h k with
      | none => rfl
      | some o' => exact absurd (hn k (by simp [e])) (by omega)
    · left; simp [Hp.single, hk]

/-- A block that is owned is turned. -/
theorem Sat.turn {E w w' : World} {l : List HProp} {b : Nat} {o o' : Obj} (s : Sat E (stars (blk b o :: l)) w)
    (hos : w'.os = w.os) (ht : w'.tape = w.tape) (ho : w'.output = w.output)
    (hb : w'.heap[b]? = some o') (hk : ∀ k, k ≠ b → w'.heap[k]? = w.heap[k]?) : Sat E (stars (blk b o' :: l)) w' := by
  refine ⟨hos.trans s.os, ht.trans s.tape, ho.trans s.output, ?_⟩
  obtain ⟨h, hs, h1, h2, d, rfl, a, r⟩ := s.heap
  have a : h1 = Hp.single b o := a
  subst a
  have hd : ∀ k, (h2 k ≠ none) → k ≠ b := by
    intro k hk e
    have := d k
    simp [Hp.single, e] at this
    exact hk (e ▸ this)
  refine ⟨Hp.un (Hp.single b o') h2, ?_, Hp.single b o', h2, ?_, rfl, rfl, r⟩
  · intro k o'' e
    simp only [Hp.un, Hp.single] at e
    by_cases hkb : k = b
    · rw [if_pos hkb] at e; cases e; rw [hkb]; exact hb
    · rw [if_neg hkb] at e
      rw [hk k hkb]
      exact hs k o'' (by simp [Hp.un, Hp.single, hkb]; exact e)
  · intro k
    by_cases hkb : k = b
    · right
      cases e : h2 k with
      | none => rfl
      | some _ => exact absurd hkb (hd k (by simp [e]))
    · left; simp [Hp.single, hkb]

theorem Sat.set {E w : World} {l : List HProp} {b : Nat} {e : TypeId} {cs : List Value} (s : Sat E (stars (row b e cs :: l)) w) (i : Nat) (v : Value) :
    Sat E (stars (row b e (cs.set i v) :: l)) (w.setCell ⟨b, i, none⟩ v) := by
  have hb := s.block
  refine s.turn rfl rfl rfl ?_ fun k hk => Below.heap_setCell _ _ _ _ hk
  simp only [World.setCell, Array.getElem?_modify, if_true, hb, Option.map_some]
  simp

theorem Sat.cell {E w : World} {l : List HProp} {b : Nat} {e : TypeId} {cs : List Value} (s : Sat E (stars (row b e cs :: l)) w) (i : Nat) :
    w.cell? ⟨b, i, none⟩ = cs[i]? := by
  have hb := s.block
  simp [World.cell?, hb]
theorem Sat.free {E w : World} {l : List HProp} {b : Nat} {e : TypeId} {cs : List Value} (s : Sat E (stars (row b e cs :: l)) w) (i : Nat) :
    w.frozen? ⟨b, i, none⟩ = false := by
  have hb := s.block
  simp [World.frozen?, hb]
theorem Sat.shape {E w : World} {l : List HProp} {b : Nat} {e : TypeId} {cs : List Value} (s : Sat E (stars (row b e cs :: l)) w) :
    w.shape? b = some (e, cs.length) := by
  have hb := s.block
  simp [World.shape?, hb]
end Go.SL
