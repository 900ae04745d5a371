import Derived.Test.YtccagffapohkhaaGreatDoorJoin1
import Derived.Test.YtccagffapohkhaaGreatDoorJoin7
import Derived.Test.YtccagffapohkhaaGreatDoorJoin10
namespace Go.Proofs.YtccagffapohkhaaGreatDoor
section
open Go Go.SL
section
open Go.ChangeShapes Go.WideShapes Go.ChangeAt Go.RowKit
theorem list_bytes24 : ∀ {cs : List Value}, (∀ i, i < cs.length → ∃ x, cs[i]? = some (.int .u8 x) ∧ 0 ≤ x ∧ x ≤ 255) → ∃ b : List Int, cs = ints .u8 b ∧ Bys b
  | [], _ => ⟨[], rfl, Bys.nil⟩
  | v :: cs, h => by
    obtain ⟨x, hx, h0, h1⟩ := h 0 (by simp)
    obtain ⟨b, hb, hB⟩ := list_bytes24 (cs := cs) fun i hi => h (i + 1) (by simpa using hi)
    simp only [List.getElem?_cons_zero, Option.some.injEq] at hx
    exact ⟨x :: b, by rw [hx, hb]; rfl, Bys.cons h0 h1 hB⟩
set_option maxRecDepth 100000 in
theorem tr_key24 {H : Type} {enc : TypeId × Value → H} {w : World} {ok : DataW H → Prop} {L : Nat → Prop} {cs : List Value} (her : Her ok L) (h : Tr enc prog ok w 25 cs) : ∃ b : List Int, cs = ints .u8 b ∧ b.length = 32 ∧ Bys b := by
  obtain ⟨hl, he⟩ := Tr.array her u25 h
  rw [show prog.cellsOf 25 = 32 by kernel_rfl] at hl
  rw [show prog.cellsOf 5 = 1 by kernel_rfl] at he
  obtain ⟨b, hb, hB⟩ := list_bytes24 (cs := cs) (fun i hi => by
    have h0 := he i (by omega)
    obtain ⟨x, e, r1, r2⟩ := Tr.int u5 h0
    rw [List.drop_eq_getElem_cons (by omega)] at e
    simp only [Nat.mul_one, List.take_succ_cons, List.take_zero, List.cons.injEq, and_true] at e
    exact ⟨x, by rw [List.getElem?_eq_getElem hi, e], r1, r2⟩)
  subst hb
  exact ⟨b, rfl, by simpa [ints] using hl, hB⟩
theorem cutK (cs : List Value) (a b : Nat) : (cs.drop a).take b ++ cs.drop (a + b) = cs.drop a := by rw [← List.drop_drop, List.take_append_drop]
theorem flatMap_oneS {α : Type} (f : α → Value) (xs : List α) : xs.flatMap (fun x => [f x]) = xs.map f := by
  induction xs with
  | nil => rfl
  | cons x xs ih => rw [List.flatMap_cons, ih]; rfl
set_option maxRecDepth 100000 in
theorem tr_strs24 {H : Type} {enc : TypeId × Value → H} {w : World} {ok : DataW H → Prop} {L : Nat → Prop} {v : Value} (her : Her ok L) (h : Tr enc prog ok w 34 [v]) : ∃ (p : Option Addr) (cap : Nat) (ss : List (List Int)), v = .slice p ss.length cap ∧ (∀ s ∈ ss, Bys s) ∧ InW w p ss.length cap (strs ss) := by
  obtain ⟨p, cap, xs, h1, _, hk, h2⟩ := Tr.slice (encA := fun s => [Value.string (SL.strOf s)]) (okA := fun s : List Int => Bys s) (k := 1) her u34 (by kernel_rfl) (by decide) (fun _ _ => rfl) (fun cs hc => by
    obtain ⟨s, hs, _, _⟩ := Tr.string her u9 hc
    obtain ⟨xs, rfl, hB, _⟩ := strOf_of s
    exact ⟨xs, hs, hB⟩) h
  have e := flatMap_oneS (fun s : List Int => Value.string (SL.strOf s)) xs
  exact ⟨p, cap, xs, h1, hk, by rw [show strs xs = xs.map (fun s => Value.string (SL.strOf s)) from rfl, ← e]; exact h2⟩
/-- A reply as it may come from outside. -/
structure RpIn (w : World) (r : RpT) (p1 : Option Addr) (c1 : Nat) (p2 : Option Addr) (c2 : Nat) : Prop where
  key : r.key.length = 32
  kb : Bys r.key
  nb : ∀ t ∈ r.names, Bys t
  tb : ∀ t ∈ r.texts, Bys t
  seq : R64i r.seq
  out : R64i r.out
  acked : R64i r.acked
  inn : R64i r.inn
  h1 : InW w p1 r.names.length c1 (strs r.names)
  h2 : InW w p2 r.texts.length c2 (strs r.texts)
set_option maxRecDepth 100000 in
theorem tr_rep {H : Type} {enc : TypeId × Value → H} {w : World} {ok : DataW H → Prop} {L : Nat → Prop} {cs : List Value} (her : Her ok L) (h : Tr enc prog ok w 36 cs) : ∃ r p1 c1 p2 c2, cs = rpE r (.slice p1 r.names.length c1) (.slice p2 r.texts.length c2) ∧ RpIn w r p1 c1 p2 c2 := by
  obtain ⟨hl, hf⟩ := Tr.struct her u36 h
  rw [show prog.cellsOf 36 = 40 by kernel_rfl] at hl
  have h0 := hf 0 _ rfl
  have h1 := hf 1 _ rfl
  have h2 := hf 2 _ rfl
  have h3 := hf 3 _ rfl
  have h4 := hf 4 _ rfl
  have h5 := hf 5 _ rfl
  have h6 := hf 6 _ rfl
  have h7 := hf 7 _ rfl
  have h8 := hf 8 _ rfl
  dsimp only at h0 h1 h2 h3 h4 h5 h6 h7 h8
  rw [show prog.cellsOf 3 = 1 by kernel_rfl] at h0 h4 h5 h6 h7
  rw [show prog.cellsOf 34 = 1 by kernel_rfl] at h2 h3
  rw [show prog.cellsOf 25 = 32 by kernel_rfl] at h1
  rw [show prog.cellsOf 28 = 1 by kernel_rfl] at h8
  have one : ∀ (a : Nat), a < cs.length → ∃ v, (cs.drop a).take 1 = [v] := fun a ha => ⟨cs[a], by rw [List.drop_eq_getElem_cons ha]; rfl⟩
  obtain ⟨v2, e2⟩ := one 33 (by omega)
  obtain ⟨v3, e3⟩ := one 34 (by omega)
  rw [e2] at h2
  rw [e3] at h3
  obtain ⟨k, e0, _⟩ := Tr.int u3 h0
  obtain ⟨ks, e1, hk, hkb⟩ := tr_key24 her h1
  obtain ⟨p1, c1, ns, rfl, hn, hi1⟩ := tr_strs24 her h2
  obtain ⟨p2, c2, ts, rfl, ht, hi2⟩ := tr_strs24 her h3
  obtain ⟨a, e4, a0, a1⟩ := Tr.int u3 h4
  obtain ⟨b, e5, b0, b1⟩ := Tr.int u3 h5
  obtain ⟨c, e6, c0, c9⟩ := Tr.int u3 h6
  obtain ⟨d, e7, d0, d1⟩ := Tr.int u3 h7
  obtain ⟨e, e8, _⟩ := Tr.int u28 h8
  refine ⟨⟨k, ks, ns, ts, a, b, c, d, e⟩, p1, c1, p2, c2, ?_, ⟨hk, hkb, hn, ht, ⟨a0, a1⟩, ⟨b0, b1⟩, ⟨c0, c9⟩, ⟨d0, d1⟩, hi1, hi2⟩⟩
  have ee : cs = (cs.drop 0).take 1 ++ ((cs.drop 1).take 32 ++ ((cs.drop 33).take 1 ++ ((cs.drop 34).take 1 ++ ((cs.drop 35).take 1 ++ ((cs.drop 36).take 1 ++ ((cs.drop 37).take 1 ++ ((cs.drop 38).take 1 ++ (cs.drop 39).take 1))))))) := by
    rw [List.take_of_length_le (l := cs.drop 39) (by rw [List.length_drop]; omega), cutK cs 38 1, cutK cs 37 1, cutK cs 36 1, cutK cs 35 1, cutK cs 34 1, cutK cs 33 1, cutK cs 1 32, cutK cs 0 1, List.drop_zero]
  rw [ee, e0, e1, e2, e3, e4, e5, e6, e7, e8]
  rfl
end
end
end Go.Proofs.YtccagffapohkhaaGreatDoor
