import Derived.Test.YtfohdnclpbipeaaDoorJoin6
import Derived.Test.YtfohdnclpbipeaaDoorJoin8
import Derived.Test.YtfohdnclpbipeaaDoorJoin9
namespace Go.Proofs.YtfohdnclpbipeaaDoor
section
open Go Go.SL
section
theorem cutIn {a : Option Addr} {m c' : Nat} {zs : List WireT} {L r : List HProp} (hz : zs.length = m) (oo : OwnAt a (m + 1) c' (zs.flatMap wiE ++ wiE wi77)) (p : Pick L (own 38 5 (.slice a (m + 1) c') (m + 1) (zs.flatMap wiE ++ wiE wi77)) r) :
 InL L a (m + 1) c' (zs.flatMap wiE ++ wiE wi77) ∧ InL L a m c' (zs.flatMap wiE) := by
 have h := oo.inl p
 have h2 := h.cutTo m (m * 5) (by omega)
 rw [List.take_left' (by rw [wis_len, hz])] at h2
 exact ⟨h, h2⟩
end
section
open Go.ChangeShapes Go.WideShapes Go.ChangeAt Go.RowKit
set_option maxRecDepth 100000 in
theorem tr_wires {H : Type} {enc : TypeId × Value → H} {w : World} {ok : DataW H → Prop} {L : Nat → Prop} {v : Value} (her : Her ok L) (h : Tr enc prog ok w 22 [v]) : ∃ (p : Option Addr) (cap : Nat) (xs : List WireT), v = .slice p xs.length cap ∧ L xs.length ∧ (∀ x ∈ xs, WiOk x) ∧ InW w p xs.length cap (xs.flatMap wiE) := by
 obtain ⟨p, cap, xs, h1, hL, hk, h2⟩ := Tr.slice (encA := wiE) (okA := WiOk) (k := 5) her u22 (by kernel_rfl) (by decide) (fun _ _ => rfl) (fun cs hc => by
  obtain ⟨hl, hf⟩ := Tr.struct her u38 hc
  rw [show prog.cellsOf 38 = 5 by kernel_rfl] at hl
  match cs, hl with
  | [a, b, c, d, e], _ =>
    have h0 := hf 0 _ rfl
    have h1 := hf 1 _ rfl
    have h2 := hf 2 _ rfl
    have h3 := hf 3 _ rfl
    have h4 := hf 4 _ rfl
    dsimp only at h0 h1 h2 h3 h4
    rw [show prog.cellsOf 3 = 1 by kernel_rfl] at h0 h1 h2 h3 h4
    obtain ⟨k0, e0, r0⟩ := Tr.int u3 h0
    obtain ⟨k1, e1, r1⟩ := Tr.int u3 h1
    obtain ⟨k2, e2, r2⟩ := Tr.int u3 h2
    obtain ⟨k3, e3, r3⟩ := Tr.int u3 h3
    obtain ⟨k4, e4, r4⟩ := Tr.int u3 h4
    cases e0; cases e1; cases e2; cases e3; cases e4
    exact ⟨(k0, k1, k2, k3, k4), rfl, r0, r1, r2, r3, r4⟩) h
 exact ⟨p, cap, xs, h1, hL, hk, h2⟩
end
end
end Go.Proofs.YtfohdnclpbipeaaDoor
