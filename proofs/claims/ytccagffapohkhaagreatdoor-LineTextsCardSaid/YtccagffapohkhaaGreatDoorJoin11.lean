import Derived.Test.YtccagffapohkhaaGreatDoorJoin1
import Derived.Test.YtccagffapohkhaaGreatDoorJoin7
import Derived.Test.YtccagffapohkhaaGreatDoorJoin10
namespace Go.Proofs.YtccagffapohkhaaGreatDoor
section
open Go Go.SL
section
open Go.ChangeShapes Go.WideShapes Go.ChangeAt Go.RowKit
theorem flatMap_oneS {α : Type} (f : α → Value) (xs : List α) : xs.flatMap (fun x => [f x]) = xs.map f := by
  induction xs with
  | nil => rfl
  | cons x xs ih => rw [List.flatMap_cons, ih]; rfl
set_option maxRecDepth 100000 in
theorem tr_strs24 {H : Type} {enc : TypeId × Value → H} {w : World} {ok : DataW H → Prop} {L : Nat → Prop} {v : Value} (her : Her ok L) (h : Tr enc prog ok w 34 [v]) : ∃ (p : Option Addr) (cap : Nat) (ss : List (List Int)), v = .slice p ss.length cap ∧ (∀ s ∈ ss, Bys s) ∧ InW w p ss.length cap (strs ss) := by
  obtain ⟨p, cap, xs, h1, _, hk, h2⟩ := Tr.slice (encA := fun s => [Value.string (SL.strOf s)]) (okA := fun s : List Int => Bys s) (k := 1) her u34 (by kernel_rfl) (by decide) (fun _ _ => rfl) (fun cs hc => by
    obtain ⟨s, hs, _, _⟩ := Tr.string her u9 hc
    obtain ⟨xs, rfl, hB, _⟩ := strOf_of s
    exact ⟨xs, hs, hB⟩) h
  have e := flatMap_oneS (fun s : List Int => Value.string (SL.strOf s)) xs
  exact ⟨p, cap, xs, h1, hk, by rw [show strs xs = xs.map (fun s => Value.string (SL.strOf s)) from rfl, ← e]; exact h2⟩
end
end
end Go.Proofs.YtccagffapohkhaaGreatDoor
