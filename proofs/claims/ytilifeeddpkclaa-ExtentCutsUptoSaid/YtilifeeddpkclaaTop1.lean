import Derived.Test.YtilifeeddpkclaaBulk
import Derived.Test.YtilifeeddpkclaaLaw2
namespace Go.Proofs.Ytilifeeddpkclaa
open Go.ChangeShapes Go.WideShapes Go.ChangeAt Go.RowKit Go.SL
section
variable {H : Type} {enc : TypeId × Value → H} {w : World} {ok : DataW H → Prop} {L : Nat → Prop}
set_option maxRecDepth 100000 in
theorem tr_bools {v : Value} (her : Her ok L) (h : Tr enc prog ok w 30 [v]) : ∃ (p : Option Addr) (cap : Nat) (bs : List Bool), v = .slice p bs.length cap ∧ L bs.length ∧ InW w p bs.length cap (bs.map Value.bool) := by
  obtain ⟨p, cap, xs, h1, hL, _, h2⟩ := Tr.slice (encA := fun b => [Value.bool b]) (okA := fun _ => True) (k := 1) her u30 (by kernel_rfl) (by decide) (fun _ _ => rfl) (fun cs hc => by
    obtain ⟨b, hb⟩ := Tr.bool u4 hc
    exact ⟨b, hb, trivial⟩) h
  have e := flatMap_one Value.bool xs
  exact ⟨p, cap, xs, h1, hL, e ▸ h2⟩
structure OpA.OkW (o : OpA) (L : Nat → Prop) (w : World) : Prop where
  few : L o.bits.length
  at_ : -9223372036854775808 ≤ o.at_ ∧ o.at_ ≤ 9223372036854775807
  inw : InW w o.kp o.bits.length o.kc (o.bits.map Value.bool)
set_option maxRecDepth 100000 in
theorem tr_op {cs : List Value} (her : Her ok L) (h : Tr enc prog ok w 32 cs) : ∃ o : OpA, cs = encO o ∧ o.OkW L w := by
  obtain ⟨hl, hf⟩ := Tr.struct her u32 h
  rw [show prog.cellsOf 32 = 4 by kernel_rfl] at hl
  match cs, hl with
  | [a, b, c, d], _ =>
    have h0 := hf 0 _ rfl
    have h1 := hf 1 _ rfl
    have h2 := hf 2 _ rfl
    have h3 := hf 3 _ rfl
    dsimp only at h0 h1 h2 h3
    rw [show prog.cellsOf 3 = 1 by kernel_rfl] at h0 h1
    rw [show prog.cellsOf 5 = 1 by kernel_rfl] at h2
    rw [show prog.cellsOf 30 = 1 by kernel_rfl] at h3
    obtain ⟨k, e0, _⟩ := Tr.int u3 h0
    obtain ⟨i, e1, r1⟩ := Tr.int u3 h1
    obtain ⟨x, e2, _⟩ := Tr.int u5 h2
    obtain ⟨p, cap, bs, e3, l3, r3⟩ := tr_bools her h3
    cases e0; cases e1; cases e2; cases e3
    exact ⟨⟨k, i, x, p, cap, bs⟩, rfl, l3, r1, r3⟩
set_option maxRecDepth 100000 in
theorem tr_ops {v : Value} (her : Her ok L) (h : Tr enc prog ok w 22 [v]) : ∃ (p : Option Addr) (cap : Nat) (xs : List OpA), v = .slice p xs.length cap ∧ L xs.length ∧ (∀ o ∈ xs, o.OkW L w) ∧ InW w p xs.length cap (xs.flatMap encO) :=
  Tr.slice (encA := encO) (okA := fun o => o.OkW L w) (k := 4) her u22 (by kernel_rfl) (by decide) (fun _ _ => rfl) (fun cs hc => tr_op her hc) h
theorem OpA.OkW.here {o : OpA} (h : o.OkW L w) (l : List HProp) : o.Ok (old w :: l) := ⟨h.at_, h.inw.inl l⟩
end
end Go.Proofs.Ytilifeeddpkclaa
