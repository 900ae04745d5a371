import Derived.Test.YtilifeeddpkclaaBulk
import Derived.Test.YtilifeeddpkclaaDisk1
namespace Go.Proofs.Ytilifeeddpkclaa
open Go.ChangeShapes Go.WideShapes Go.ChangeAt Go.RowKit Go.SL
section
variable {H : Type} {enc : TypeId × Value → H} {w : World} {ok : DataW H → Prop} {L : Nat → Prop}
theorem list_ints {cs : List Value} (h : ∀ i, i < cs.length → ∃ x : Int, cs[i]? = some (.int .u8 x) ∧ 0 ≤ x ∧ x ≤ 255) : ∃ b : List Int, cs = ints .u8 b ∧ ∀ x ∈ b, 0 ≤ x ∧ x ≤ 255 := by
  induction cs with
  | nil => exact ⟨[], rfl, by simp⟩
  | cons c r ih =>
    obtain ⟨x, hx, h0⟩ := h 0 (by simp)
    obtain ⟨b, hb, hbx⟩ := ih (fun i hi => by have := h (i + 1) (by simpa using hi); simpa using this)
    simp only [List.getElem?_cons_zero, Option.some.injEq] at hx
    subst hx hb
    refine ⟨x :: b, rfl, fun y hy => ?_⟩
    rcases List.mem_cons.1 hy with rfl | hy
    · exact h0
    · exact hbx y hy
set_option maxRecDepth 100000 in
/-- What reads as a sector. -/
theorem tr_block {cs : List Value} (her : Her ok L) (h : Tr enc prog ok w 27 cs) : ∃ b : Blk, cs = encB b ∧ b.length = 64 ∧ ∀ x ∈ b, 0 ≤ x ∧ x ≤ 255 := by
  obtain ⟨hl, hf⟩ := Tr.array her u27 h
  rw [show prog.cellsOf 27 = 64 by kernel_rfl] at hl
  obtain ⟨b, hb, hr⟩ := list_ints (cs := cs) (fun i hi => by
    have h0 := hf i (by omega)
    rw [show prog.cellsOf 5 = 1 by kernel_rfl] at h0
    obtain ⟨x, e, r⟩ := Tr.int u5 h0
    rw [List.drop_eq_getElem_cons (by omega)] at e
    simp only [Nat.mul_one, List.take_succ_cons, List.take_zero, List.cons.injEq, and_true] at e
    exact ⟨x, by rw [List.getElem?_eq_getElem hi, e], r.1, r.2⟩)
  subst hb
  exact ⟨b, rfl, by simpa [ints] using hl, hr⟩
set_option maxRecDepth 100000 in
/-- What reads as bytes. -/
theorem tr_bytesR {v : Value} (her : Her ok L) (h : Tr enc prog ok w 73 [v]) : ∃ (p : Option Addr) (cap : Nat) (bs : List Int), v = .slice p bs.length cap ∧ L bs.length ∧ (∀ x ∈ bs, 0 ≤ x ∧ x ≤ 255) ∧ InW w p bs.length cap (ints .u8 bs) := by
  obtain ⟨p, cap, xs, h1, hL, hk, h2⟩ := Tr.slice (encA := fun b => [Value.int .u8 b]) (okA := fun x => 0 ≤ x ∧ x ≤ 255) (k := 1) her u73 (by kernel_rfl) (by decide) (fun _ _ => rfl) (fun cs hc => by
    obtain ⟨b, hb, r⟩ := Tr.int u5 hc
    exact ⟨b, hb, r.1, r.2⟩) h
  have e := flatMap_one (Value.int .u8) xs
  exact ⟨p, cap, xs, h1, hL, hk, by rw [show ints .u8 xs = xs.map (Value.int .u8) from rfl, ← e]; exact h2⟩
end
end Go.Proofs.Ytilifeeddpkclaa
