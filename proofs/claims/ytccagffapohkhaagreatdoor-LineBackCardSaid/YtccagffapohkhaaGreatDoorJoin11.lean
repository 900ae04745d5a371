import Derived.Test.YtccagffapohkhaaGreatDoorJoin1
import Derived.Test.YtccagffapohkhaaGreatDoorJoin7
import Derived.Test.YtccagffapohkhaaGreatDoorJoin10
namespace Go.Proofs.YtccagffapohkhaaGreatDoor
section
open Go Go.SL
section
open Go.ChangeShapes Go.WideShapes Go.ChangeAt Go.RowKit
theorem list_bytes24 : ∀ {cs : List Value}, (∀ i, i < cs.length → ∃ x, cs[i]? = some (.int .u8 x) ∧ 0 ≤ x ∧ x ≤ 255) → ∃ b : List Int, cs = ints .u8 b ∧ Bys b
  | [], _ => ⟨[], rfl, Bys.nil⟩
  | v :: cs, h => by
    obtain ⟨x, hx, h0, h1⟩ := h 0 (by simp)
    obtain ⟨b, hb, hB⟩ := list_bytes24 (cs := cs) fun i hi => h (i + 1) (by simpa using hi)
    simp only [List.getElem?_cons_zero, Option.some.injEq] at hx
    exact ⟨x :: b, by rw [hx, hb]; rfl, Bys.cons h0 h1 hB⟩
set_option maxRecDepth 100000 in
theorem tr_key24 {H : Type} {enc : TypeId × Value → H} {w : World} {ok : DataW H → Prop} {L : Nat → Prop} {cs : List Value} (her : Her ok L) (h : Tr enc prog ok w 25 cs) : ∃ b : List Int, cs = ints .u8 b ∧ b.length = 32 ∧ Bys b := by
  obtain ⟨hl, he⟩ := Tr.array her u25 h
  rw [show prog.cellsOf 25 = 32 by kernel_rfl] at hl
  rw [show prog.cellsOf 5 = 1 by kernel_rfl] at he
  obtain ⟨b, hb, hB⟩ := list_bytes24 (cs := cs) (fun i hi => by
    have h0 := he i (by omega)
    obtain ⟨x, e, r1, r2⟩ := Tr.int u5 h0
    rw [List.drop_eq_getElem_cons (by omega)] at e
    simp only [Nat.mul_one, List.take_succ_cons, List.take_zero, List.cons.injEq, and_true] at e
    exact ⟨x, by rw [List.getElem?_eq_getElem hi, e], r1, r2⟩)
  subst hb
  exact ⟨b, rfl, by simpa [ints] using hl, hB⟩
theorem cutK (cs : List Value) (a b : Nat) : (cs.drop a).take b ++ cs.drop (a + b) = cs.drop a := by rw [← List.drop_drop, List.take_append_drop]
set_option maxRecDepth 100000 in
theorem tr_cmd {H : Type} {enc : TypeId × Value → H} {w : World} {ok : DataW H → Prop} {L : Nat → Prop} {cs : List Value} (her : Her ok L) (h : Tr enc prog ok w 27 cs) : ∃ c : CmT, cs = cmE c ∧ CmOk c ∧ R64i c.count := by
  obtain ⟨hl, hf⟩ := Tr.struct her u27 h
  rw [show prog.cellsOf 27 = 36 by kernel_rfl] at hl
  have h0 := hf 0 _ rfl
  have h1 := hf 1 _ rfl
  have h2 := hf 2 _ rfl
  have h3 := hf 3 _ rfl
  have h4 := hf 4 _ rfl
  dsimp only at h0 h1 h2 h3 h4
  rw [show prog.cellsOf 3 = 1 by kernel_rfl] at h0 h4
  rw [show prog.cellsOf 9 = 1 by kernel_rfl] at h1 h3
  rw [show prog.cellsOf 25 = 32 by kernel_rfl] at h2
  obtain ⟨k, e0, _⟩ := Tr.int u3 h0
  obtain ⟨s, e1, _⟩ := Tr.string her u9 h1
  obtain ⟨ks, e2, hk, hkb⟩ := tr_key24 her h2
  obtain ⟨t, e3, _⟩ := Tr.string her u9 h3
  obtain ⟨n, e4, n0, n1⟩ := Tr.int u3 h4
  obtain ⟨nm, rfl, hnm, _⟩ := strOf_of s
  obtain ⟨tx, rfl, htx, _⟩ := strOf_of t
  refine ⟨⟨k, nm, ks, tx, n⟩, ?_, ⟨hk, hkb, hnm, htx⟩, n0, n1⟩
  have e : cs = (cs.drop 0).take 1 ++ ((cs.drop 1).take 1 ++ ((cs.drop 2).take 32 ++ ((cs.drop 34).take 1 ++ (cs.drop 35).take 1))) := by
    rw [List.take_of_length_le (l := cs.drop 35) (by rw [List.length_drop]; omega), cutK cs 34 1, cutK cs 2 32, cutK cs 1 1, cutK cs 0 1, List.drop_zero]
  rw [e, e0, e1, e2, e3, e4]
  rfl
end
end
end Go.Proofs.YtccagffapohkhaaGreatDoor
