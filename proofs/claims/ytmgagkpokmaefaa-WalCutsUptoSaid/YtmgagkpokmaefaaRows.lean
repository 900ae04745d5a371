/-
  No cell of these rows narrows 'for every input' (looked for: loops, veiled, ifaces, maps, wideKeys, modest, calm, conditions, laid).
  DERIVED. THE GIVEN ROWS OF THIS SEAT. 8 by the template 'for every input the law returns true; each argument reads behind the call as it read before'; 0 by the template 'total and deterministic' (their statements: YtmgagkpokmaefaaTotals.lean).
  GIVEN WITH THE SEED: the statements are not yours to turn. If you find one false, say at which input.
  Laid BY PROGRAM, IN A SANDBOX (cutbox-rows.mjs): the forced cells as the released guide's own fill.sh prints them over the translation 5303a25674664981… (all of the seat's roots in one cut). By AI agents, Wed Nov 11 2026. No macro, syntax, notation, axiom, sorry.
-/
import Derived.Test.YtmgagkpokmaefaaChecked
import GoSem.Claim
import GoSem.ClaimJoined
import GoSem.ClaimMapViews
import Derived.JoinedTies
import Derived.KernelRfl
namespace Go.Proofs.Ytmgagkpokmaefaa
/- THE CELL 'sum', in the pinned program and in every row, IS THE sha256 OF THE DUMP (.gsa) THAT YtmgagkpokmaefaaProg.lean LOADS. Nothing in Lean hashes anything: it is a label: what it is worth is what the hold of that sum in a sandbox is worth. -/
noncomputable def Try.pinned : Pinned := { name := "ytmgagkpokmaefaa", sum := "5303a25674664981ad9603c865c5963df8c3af0098da5cd6f222b46cc0b165b3", checked := Try.checked }
namespace Rows
def none {H : Type} : Left H := { results := [], args := [] }

/-- 'hollowtreelaw12.WalNeeds': WHATEVER THE INPUT: true; the input reads as it did. -/
def walNeedsSpec : ChangeSpec := { name := "walNeeds", fn := fun _ => fun
  | [d] => { results := [.lit (.bool true)], args := [d] }
  | _ => none }
def walNeedsRow : OpenClaim := { program := "ytmgagkpokmaefaa", sum := "5303a25674664981ad9603c865c5963df8c3af0098da5cd6f222b46cc0b165b3", func := "hollowtree/hollowtreelaw12.WalNeeds", spec := "walNeeds", unfollowed := true, recurses := true, apart := false }
def WalNeedsSaid : Prop := walNeedsRow.holds Try.pinned (OpenSpec.ofChange walNeedsSpec)

/-- ITS FALSE NEIGHBOUR: 'it returns false'. Refute it at one input. -/
def walNeedsWrong : ChangeSpec := { name := "walNeeds", fn := fun _ => fun
  | [d] => { results := [.lit (.bool false)], args := [d] }
  | _ => none }
def WalNeedsWrongFalsely : Prop := walNeedsRow.holds Try.pinned (OpenSpec.ofChange walNeedsWrong)

/-- 'hollowtreelaw12.WalLays': WHATEVER THE INPUT: true; the input reads as it did. -/
def walLaysSpec : ChangeSpec := { name := "walLays", fn := fun _ => fun
  | [d1, d2] => { results := [.lit (.bool true)], args := [d1, d2] }
  | _ => none }
def walLaysRow : OpenClaim := { program := "ytmgagkpokmaefaa", sum := "5303a25674664981ad9603c865c5963df8c3af0098da5cd6f222b46cc0b165b3", func := "hollowtree/hollowtreelaw12.WalLays", spec := "walLays", unfollowed := true, recurses := true, apart := false }
def WalLaysSaid : Prop := walLaysRow.holds Try.pinned (OpenSpec.ofChange walLaysSpec)

/-- ITS FALSE NEIGHBOUR: 'it returns false'. Refute it at one input. -/
def walLaysWrong : ChangeSpec := { name := "walLays", fn := fun _ => fun
  | [d1, d2] => { results := [.lit (.bool false)], args := [d1, d2] }
  | _ => none }
def WalLaysWrongFalsely : Prop := walLaysRow.holds Try.pinned (OpenSpec.ofChange walLaysWrong)

/-- 'hollowtreelaw12.WalFills': WHATEVER THE INPUT: true; the input reads as it did. -/
def walFillsSpec : ChangeSpec := { name := "walFills", fn := fun _ => fun
  | [d] => { results := [.lit (.bool true)], args := [d] }
  | _ => none }
def walFillsRow : OpenClaim := { program := "ytmgagkpokmaefaa", sum := "5303a25674664981ad9603c865c5963df8c3af0098da5cd6f222b46cc0b165b3", func := "hollowtree/hollowtreelaw12.WalFills", spec := "walFills", unfollowed := true, recurses := true, apart := false }
def WalFillsSaid : Prop := walFillsRow.holds Try.pinned (OpenSpec.ofChange walFillsSpec)

/-- ITS FALSE NEIGHBOUR: 'it returns false'. Refute it at one input. -/
def walFillsWrong : ChangeSpec := { name := "walFills", fn := fun _ => fun
  | [d] => { results := [.lit (.bool false)], args := [d] }
  | _ => none }
def WalFillsWrongFalsely : Prop := walFillsRow.holds Try.pinned (OpenSpec.ofChange walFillsWrong)

/-- 'hollowtreelaw12.WalNone': WHATEVER THE INPUT: true; the input reads as it did. -/
def walNoneSpec : ChangeSpec := { name := "walNone", fn := fun _ => fun
  | [d1, d2] => { results := [.lit (.bool true)], args := [d1, d2] }
  | _ => none }
def walNoneRow : OpenClaim := { program := "ytmgagkpokmaefaa", sum := "5303a25674664981ad9603c865c5963df8c3af0098da5cd6f222b46cc0b165b3", func := "hollowtree/hollowtreelaw12.WalNone", spec := "walNone", unfollowed := true, recurses := true, apart := false }
def WalNoneSaid : Prop := walNoneRow.holds Try.pinned (OpenSpec.ofChange walNoneSpec)

/-- ITS FALSE NEIGHBOUR: 'it returns false'. Refute it at one input. -/
def walNoneWrong : ChangeSpec := { name := "walNone", fn := fun _ => fun
  | [d1, d2] => { results := [.lit (.bool false)], args := [d1, d2] }
  | _ => none }
def WalNoneWrongFalsely : Prop := walNoneRow.holds Try.pinned (OpenSpec.ofChange walNoneWrong)

/-- 'hollowtreelaw12.WalForges': WHATEVER THE INPUT: true; the input reads as it did. -/
def walForgesSpec : ChangeSpec := { name := "walForges", fn := fun _ => fun
  | [d1, d2, d3] => { results := [.lit (.bool true)], args := [d1, d2, d3] }
  | _ => none }
def walForgesRow : OpenClaim := { program := "ytmgagkpokmaefaa", sum := "5303a25674664981ad9603c865c5963df8c3af0098da5cd6f222b46cc0b165b3", func := "hollowtree/hollowtreelaw12.WalForges", spec := "walForges", unfollowed := true, recurses := true, apart := false }
def WalForgesSaid : Prop := walForgesRow.holds Try.pinned (OpenSpec.ofChange walForgesSpec)

/-- ITS FALSE NEIGHBOUR: 'it returns false'. Refute it at one input. -/
def walForgesWrong : ChangeSpec := { name := "walForges", fn := fun _ => fun
  | [d1, d2, d3] => { results := [.lit (.bool false)], args := [d1, d2, d3] }
  | _ => none }
def WalForgesWrongFalsely : Prop := walForgesRow.holds Try.pinned (OpenSpec.ofChange walForgesWrong)

/-- 'hollowtreelaw12.WalDoes': WHATEVER THE INPUT: true; the input reads as it did. -/
def walDoesSpec : ChangeSpec := { name := "walDoes", fn := fun _ => fun
  | [d1, d2] => { results := [.lit (.bool true)], args := [d1, d2] }
  | _ => none }
def walDoesRow : OpenClaim := { program := "ytmgagkpokmaefaa", sum := "5303a25674664981ad9603c865c5963df8c3af0098da5cd6f222b46cc0b165b3", func := "hollowtree/hollowtreelaw12.WalDoes", spec := "walDoes", unfollowed := true, recurses := true, apart := false }
def WalDoesSaid : Prop := walDoesRow.holds Try.pinned (OpenSpec.ofChange walDoesSpec)

/-- ITS FALSE NEIGHBOUR: 'it returns false'. Refute it at one input. -/
def walDoesWrong : ChangeSpec := { name := "walDoes", fn := fun _ => fun
  | [d1, d2] => { results := [.lit (.bool false)], args := [d1, d2] }
  | _ => none }
def WalDoesWrongFalsely : Prop := walDoesRow.holds Try.pinned (OpenSpec.ofChange walDoesWrong)

/-- 'hollowtreelaw12.WalReads': WHATEVER THE INPUT: true; the input reads as it did. -/
def walReadsSpec : ChangeSpec := { name := "walReads", fn := fun _ => fun
  | [d1, d2, d3] => { results := [.lit (.bool true)], args := [d1, d2, d3] }
  | _ => none }
def walReadsRow : OpenClaim := { program := "ytmgagkpokmaefaa", sum := "5303a25674664981ad9603c865c5963df8c3af0098da5cd6f222b46cc0b165b3", func := "hollowtree/hollowtreelaw12.WalReads", spec := "walReads", unfollowed := true, recurses := true, apart := false }
def WalReadsSaid : Prop := walReadsRow.holds Try.pinned (OpenSpec.ofChange walReadsSpec)

/-- ITS FALSE NEIGHBOUR: 'it returns false'. Refute it at one input. -/
def walReadsWrong : ChangeSpec := { name := "walReads", fn := fun _ => fun
  | [d1, d2, d3] => { results := [.lit (.bool false)], args := [d1, d2, d3] }
  | _ => none }
def WalReadsWrongFalsely : Prop := walReadsRow.holds Try.pinned (OpenSpec.ofChange walReadsWrong)

/-- 'hollowtreelaw12.WalCuts': WHATEVER THE INPUT: true; the input reads as it did. -/
def walCutsSpec : ChangeSpec := { name := "walCuts", fn := fun _ => fun
  | [d1, d2, d3] => { results := [.lit (.bool true)], args := [d1, d2, d3] }
  | _ => none }
def walCutsRow : OpenClaim := { program := "ytmgagkpokmaefaa", sum := "5303a25674664981ad9603c865c5963df8c3af0098da5cd6f222b46cc0b165b3", func := "hollowtree/hollowtreelaw12.WalCuts", spec := "walCuts", unfollowed := true, recurses := true, apart := false }
def WalCutsSaid : Prop := walCutsRow.holds Try.pinned (OpenSpec.ofChange walCutsSpec)

/-- ITS FALSE NEIGHBOUR: 'it returns false'. Refute it at one input. -/
def walCutsWrong : ChangeSpec := { name := "walCuts", fn := fun _ => fun
  | [d1, d2, d3] => { results := [.lit (.bool false)], args := [d1, d2, d3] }
  | _ => none }
def WalCutsWrongFalsely : Prop := walCutsRow.holds Try.pinned (OpenSpec.ofChange walCutsWrong)

/- THE SECOND FORM. 'bulk': how many values and letters a reading holds, each counted each time it is reached (what is shared counts as often as it is met; a slice's spare places count too). A statement '..UptoSaid' is the law's where the arguments, and the package variables that the reading takes, are together of bulk at most 1048576: NARROWER than '..Said'. Prove '..Said' where nothing that the law and all that it calls make is longer than what came in: it says more and counts as full. Else prove '..UptoSaid'. A law counts once. -/
mutual
def uptoBulk {H : Type} : DataW H → Nat
  | .lit (.string bytes) => bytes.length + 1
  | .lit _ => 1
  | .nil => 1
  | .ptr d => uptoBulk d + 1
  | .slice elems spare => uptoBulkAll elems + uptoBulkAll spare + 1
  | .agg parts => uptoBulkAll parts + 1
  | .iface _ d => uptoBulk d + 1
  | .map entries => uptoBulkEntries entries + 1
  | .held _ => 1
def uptoBulkAll {H : Type} : List (DataW H) → Nat
  | [] => 0
  | d :: r => uptoBulk d + uptoBulkAll r
def uptoBulkEntries {H : Type} : List (Lit × DataW H) → Nat
  | [] => 0
  | x :: r => uptoBulkEntry x + uptoBulkEntries r
def uptoBulkEntry {H : Type} : Lit × DataW H → Nat
  | (.string bytes, d) => bytes.length + uptoBulk d + 1
  | (_, d) => uptoBulk d + 1
 end
def uptoSmall : (H : Type) → List (DataW H) → Bool := fun _ ds => decide (uptoBulkAll ds ≤ 1048576)
def OpenSpec.upto (s : _root_.Go.ChangeSpec) : _root_.Go.OpenSpec := { _root_.Go.OpenSpec.ofChange s with cond := some uptoSmall }

/-- 'hollowtreelaw12.WalNeeds', WHERE WHAT IT READS IS OF BULK AT MOST 1048576: true; the input reads as it did. -/
def walNeedsUptoRow : OpenClaim := { program := "ytmgagkpokmaefaa", sum := "5303a25674664981ad9603c865c5963df8c3af0098da5cd6f222b46cc0b165b3", func := "hollowtree/hollowtreelaw12.WalNeeds", spec := "walNeeds", unfollowed := true, recurses := true, apart := false, narrowed := true }
def WalNeedsUptoSaid : Prop := walNeedsUptoRow.holds Try.pinned (OpenSpec.upto walNeedsSpec)

/-- 'hollowtreelaw12.WalLays', WHERE WHAT IT READS IS OF BULK AT MOST 1048576: true; the input reads as it did. -/
def walLaysUptoRow : OpenClaim := { program := "ytmgagkpokmaefaa", sum := "5303a25674664981ad9603c865c5963df8c3af0098da5cd6f222b46cc0b165b3", func := "hollowtree/hollowtreelaw12.WalLays", spec := "walLays", unfollowed := true, recurses := true, apart := false, narrowed := true }
def WalLaysUptoSaid : Prop := walLaysUptoRow.holds Try.pinned (OpenSpec.upto walLaysSpec)

/-- 'hollowtreelaw12.WalFills', WHERE WHAT IT READS IS OF BULK AT MOST 1048576: true; the input reads as it did. -/
def walFillsUptoRow : OpenClaim := { program := "ytmgagkpokmaefaa", sum := "5303a25674664981ad9603c865c5963df8c3af0098da5cd6f222b46cc0b165b3", func := "hollowtree/hollowtreelaw12.WalFills", spec := "walFills", unfollowed := true, recurses := true, apart := false, narrowed := true }
def WalFillsUptoSaid : Prop := walFillsUptoRow.holds Try.pinned (OpenSpec.upto walFillsSpec)

/-- 'hollowtreelaw12.WalNone', WHERE WHAT IT READS IS OF BULK AT MOST 1048576: true; the input reads as it did. -/
def walNoneUptoRow : OpenClaim := { program := "ytmgagkpokmaefaa", sum := "5303a25674664981ad9603c865c5963df8c3af0098da5cd6f222b46cc0b165b3", func := "hollowtree/hollowtreelaw12.WalNone", spec := "walNone", unfollowed := true, recurses := true, apart := false, narrowed := true }
def WalNoneUptoSaid : Prop := walNoneUptoRow.holds Try.pinned (OpenSpec.upto walNoneSpec)

/-- 'hollowtreelaw12.WalForges', WHERE WHAT IT READS IS OF BULK AT MOST 1048576: true; the input reads as it did. -/
def walForgesUptoRow : OpenClaim := { program := "ytmgagkpokmaefaa", sum := "5303a25674664981ad9603c865c5963df8c3af0098da5cd6f222b46cc0b165b3", func := "hollowtree/hollowtreelaw12.WalForges", spec := "walForges", unfollowed := true, recurses := true, apart := false, narrowed := true }
def WalForgesUptoSaid : Prop := walForgesUptoRow.holds Try.pinned (OpenSpec.upto walForgesSpec)

/-- 'hollowtreelaw12.WalDoes', WHERE WHAT IT READS IS OF BULK AT MOST 1048576: true; the input reads as it did. -/
def walDoesUptoRow : OpenClaim := { program := "ytmgagkpokmaefaa", sum := "5303a25674664981ad9603c865c5963df8c3af0098da5cd6f222b46cc0b165b3", func := "hollowtree/hollowtreelaw12.WalDoes", spec := "walDoes", unfollowed := true, recurses := true, apart := false, narrowed := true }
def WalDoesUptoSaid : Prop := walDoesUptoRow.holds Try.pinned (OpenSpec.upto walDoesSpec)

/-- 'hollowtreelaw12.WalReads', WHERE WHAT IT READS IS OF BULK AT MOST 1048576: true; the input reads as it did. -/
def walReadsUptoRow : OpenClaim := { program := "ytmgagkpokmaefaa", sum := "5303a25674664981ad9603c865c5963df8c3af0098da5cd6f222b46cc0b165b3", func := "hollowtree/hollowtreelaw12.WalReads", spec := "walReads", unfollowed := true, recurses := true, apart := false, narrowed := true }
def WalReadsUptoSaid : Prop := walReadsUptoRow.holds Try.pinned (OpenSpec.upto walReadsSpec)

/-- 'hollowtreelaw12.WalCuts', WHERE WHAT IT READS IS OF BULK AT MOST 1048576: true; the input reads as it did. -/
def walCutsUptoRow : OpenClaim := { program := "ytmgagkpokmaefaa", sum := "5303a25674664981ad9603c865c5963df8c3af0098da5cd6f222b46cc0b165b3", func := "hollowtree/hollowtreelaw12.WalCuts", spec := "walCuts", unfollowed := true, recurses := true, apart := false, narrowed := true }
def WalCutsUptoSaid : Prop := walCutsUptoRow.holds Try.pinned (OpenSpec.upto walCutsSpec)

end Rows
end Go.Proofs.Ytmgagkpokmaefaa
