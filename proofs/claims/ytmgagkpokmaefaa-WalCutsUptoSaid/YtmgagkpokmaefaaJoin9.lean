import Derived.Test.YtmgagkpokmaefaaJoin3
import Derived.Test.YtmgagkpokmaefaaJoin8
namespace Go.Proofs.Ytmgagkpokmaefaa
open Go Go.SL
section
open Go.ChangeShapes Go.WideShapes Go.ChangeAt Go.RowKit
set_option maxRecDepth 100000 in
theorem tr_op12 {H : Type} {enc : TypeId × Value → H} {w : World} {ok : DataW H → Prop} {L : Nat → Prop} {cs : List Value} (her : Her ok L) (h : Tr enc prog ok w 61 cs) : ∃ o : Op12, cs = opE o ∧ o.Ok [old w] ∧ L o.bs.length := by
  obtain ⟨hl, hf⟩ := Tr.struct her u61 h
  rw [show prog.cellsOf 61 = 2 by kernel_rfl] at hl
  match cs, hl with
  | [a, b], _ =>
    have h0 := hf 0 _ rfl
    have h1 := hf 1 _ rfl
    dsimp only at h0 h1
    rw [show prog.cellsOf 3 = 1 by kernel_rfl] at h0
    rw [show prog.cellsOf 36 = 1 by kernel_rfl] at h1
    obtain ⟨k, e0, r0⟩ := Tr.int u3 h0
    obtain ⟨p, c, bs, e1, hL, hb, hi⟩ := tr_bytesR her h1
    cases e0
    cases e1
    exact ⟨⟨k, p, c, bs⟩, rfl, ⟨hb, hi.inl []⟩, hL⟩
set_option maxRecDepth 100000 in
theorem tr_ops12 {H : Type} {enc : TypeId × Value → H} {w : World} {ok : DataW H → Prop} {L : Nat → Prop} {v : Value} (her : Her ok L) (h : Tr enc prog ok w 58 [v]) : ∃ (p : Option Addr) (cap : Nat) (xs : List Op12), v = .slice p xs.length cap ∧ (∀ x ∈ xs, x.Ok [old w]) ∧ InW w p xs.length cap (xs.flatMap opE) := by
  obtain ⟨p, cap, xs, h1, hL, hk, h2⟩ := Tr.slice (encA := opE) (okA := fun o : Op12 => o.Ok [old w]) (k := 2) her u58 (by kernel_rfl) (by decide) (fun _ _ => rfl) (fun cs hc => let ⟨o, e, ho, _⟩ := tr_op12 her hc; ⟨o, e, ho⟩) h
  exact ⟨p, cap, xs, h1, hk, h2⟩
end
end Go.Proofs.Ytmgagkpokmaefaa
