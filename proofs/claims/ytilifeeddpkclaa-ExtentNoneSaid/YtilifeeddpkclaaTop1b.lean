import Derived.Test.YtilifeeddpkclaaBulk
namespace Go.Proofs.Ytilifeeddpkclaa
open Go.ChangeShapes Go.WideShapes Go.ChangeAt Go.RowKit Go.SL
section
variable {H : Type} {enc : TypeId × Value → H} {w : World} {ok : DataW H → Prop} {L : Nat → Prop}
set_option maxRecDepth 100000 in
/-- What reads as bytes. -/
theorem tr_bytes {v : Value} (her : Her ok L) (h : Tr enc prog ok w 73 [v]) : ∃ (p : Option Addr) (cap : Nat) (bs : List Int), v = .slice p bs.length cap ∧ L bs.length ∧ InW w p bs.length cap (ints .u8 bs) := by
  obtain ⟨p, cap, xs, h1, hL, _, h2⟩ := Tr.slice (encA := fun b => [Value.int .u8 b]) (okA := fun _ => True) (k := 1) her u73 (by kernel_rfl) (by decide) (fun _ _ => rfl) (fun cs hc => by
    obtain ⟨b, hb, _⟩ := Tr.int u5 hc
    exact ⟨b, hb, trivial⟩) h
  have e := flatMap_one (Value.int .u8) xs
  exact ⟨p, cap, xs, h1, hL, by rw [show ints .u8 xs = xs.map (Value.int .u8) from rfl, ← e]; exact h2⟩
end
end Go.Proofs.Ytilifeeddpkclaa
