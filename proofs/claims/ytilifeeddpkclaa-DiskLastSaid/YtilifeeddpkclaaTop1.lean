import Derived.Test.YtilifeeddpkclaaRows
import Derived.Test.YtilifeeddpkclaaSlTop
import Derived.Test.YtilifeeddpkclaaLaw2
namespace Go.Proofs.Ytilifeeddpkclaa
open Go.ChangeShapes Go.WideShapes Go.ChangeAt Go.RowKit Go.SL
theorem own_ : ownKnob Try.prog.godebug = none := by kernel_rfl
theorem laidOut_ : laidOutB Try.prog = true := by kernel_rfl
section
variable {H : Type} {enc : TypeId × Value → H} {w : World}
set_option maxRecDepth 100000 in
theorem tr_bools {v : Value} (h : Tr enc prog w 30 [v]) : ∃ (p : Option Addr) (cap : Nat) (bs : List Bool), v = .slice p bs.length cap ∧ InW w p bs.length cap (bs.map Value.bool) := by
  obtain ⟨p, cap, xs, h1, _, h2⟩ := Tr.slice (encA := fun b => [Value.bool b]) (okA := fun _ => True) (k := 1) u30 (by kernel_rfl) (by decide) (fun _ _ => rfl) (fun cs hc => by
    obtain ⟨b, hb⟩ := Tr.bool u4 hc
    exact ⟨b, hb, trivial⟩) h
  have e := flatMap_one Value.bool xs
  exact ⟨p, cap, xs, h1, e ▸ h2⟩
structure OpA.OkW (o : OpA) (w : World) : Prop where
  at_ : -9223372036854775808 ≤ o.at_ ∧ o.at_ ≤ 9223372036854775807
  inw : InW w o.kp o.bits.length o.kc (o.bits.map Value.bool)
set_option maxRecDepth 100000 in
theorem tr_op {cs : List Value} (h : Tr enc prog w 32 cs) : ∃ o : OpA, cs = encO o ∧ o.OkW w := by
  obtain ⟨hl, hf⟩ := Tr.struct u32 h
  rw [show prog.cellsOf 32 = 4 by kernel_rfl] at hl
  match cs, hl with
  | [a, b, c, d], _ =>
    have h0 := hf 0 _ rfl
    have h1 := hf 1 _ rfl
    have h2 := hf 2 _ rfl
    have h3 := hf 3 _ rfl
    dsimp only at h0 h1 h2 h3
    rw [show prog.cellsOf 3 = 1 by kernel_rfl] at h0 h1
    rw [show prog.cellsOf 5 = 1 by kernel_rfl] at h2
    rw [show prog.cellsOf 30 = 1 by kernel_rfl] at h3
    obtain ⟨k, e0, _⟩ := Tr.int u3 h0
    obtain ⟨i, e1, r1⟩ := Tr.int u3 h1
    obtain ⟨x, e2, _⟩ := Tr.int u5 h2
    obtain ⟨p, cap, bs, e3, r3⟩ := tr_bools h3
    cases e0; cases e1; cases e2; cases e3
    exact ⟨⟨k, i, x, p, cap, bs⟩, rfl, r1, r3⟩
set_option maxRecDepth 100000 in
theorem tr_ops {v : Value} (h : Tr enc prog w 22 [v]) : ∃ (p : Option Addr) (cap : Nat) (xs : List OpA), v = .slice p xs.length cap ∧ (∀ o ∈ xs, o.OkW w) ∧ InW w p xs.length cap (xs.flatMap encO) :=
  Tr.slice (encA := encO) (okA := fun o => o.OkW w) (k := 4) u22 (by kernel_rfl) (by decide) (fun _ _ => rfl) (fun cs hc => tr_op hc) h
end
end Go.Proofs.Ytilifeeddpkclaa
