/-
  No cell of these rows narrows 'for every input' (looked for: loops, veiled, ifaces, maps, wideKeys, modest, calm, conditions, laid).
  DERIVED. THE GIVEN ROWS OF THIS SEAT. 8 by the template 'for every input the law returns true; each argument reads behind the call as it read before'; 0 by the template 'total and deterministic' (their statements: YtaopifoidbdniaaGreatTotals.lean).
  GIVEN WITH THE SEED: the statements are not yours to turn. If you find one false, say at which input.
  Laid BY PROGRAM, IN A SANDBOX (cutbox-rows.mjs): the forced cells as the released guide's own fill.sh prints them over the translation 12f753cf186f7d9f… (all of the seat's roots in one cut). By AI agents, Wed Nov 11 2026. No macro, syntax, notation, axiom, sorry.
-/
import Derived.Test.YtaopifoidbdniaaGreatChecked
import GoSem.Claim
import GoSem.ClaimJoined
import GoSem.ClaimMapViews
import Derived.JoinedTies
import Derived.KernelRfl
namespace Go.Proofs.YtaopifoidbdniaaGreat
/- THE CELL 'sum', in the pinned program and in every row, IS THE sha256 OF THE DUMP (.gsa) THAT YtaopifoidbdniaaGreatProg.lean LOADS. Nothing in Lean hashes anything: it is a label: what it is worth is what the hold of that sum in a sandbox is worth. -/
noncomputable def Tryz.pinned : Pinned := { name := "ytaopifoidbdniaagreat", sum := "12f753cf186f7d9fa208a216610e981e77dc6ee79b2555262a3e44f7a0c26ec3", checked := Tryz.checked }
namespace Rows
def none {H : Type} : Left H := { results := [], args := [] }

/-- 'hollowtreelaw13.TableStates': WHATEVER THE INPUT: true; the input reads as it did. -/
def tableStatesSpec : ChangeSpec := { name := "tableStates", fn := fun _ => fun
  | [d1, d2] => { results := [.lit (.bool true)], args := [d1, d2] }
  | _ => none }
def tableStatesRow : OpenClaim := { program := "ytaopifoidbdniaagreat", sum := "12f753cf186f7d9fa208a216610e981e77dc6ee79b2555262a3e44f7a0c26ec3", func := "hollowtree/hollowtreelaw13.TableStates", spec := "tableStates", inPlace := ["maps.clone"], unfollowed := true, recurses := true, plainKeys := false, apart := false }
def TableStatesSaid : Prop := tableStatesRow.holds Tryz.pinned (OpenSpec.ofChange tableStatesSpec)

/-- ITS FALSE NEIGHBOUR: 'it returns false'. Refute it at one input. -/
def tableStatesWrong : ChangeSpec := { name := "tableStates", fn := fun _ => fun
  | [d1, d2] => { results := [.lit (.bool false)], args := [d1, d2] }
  | _ => none }
def TableStatesWrongFalsely : Prop := tableStatesRow.holds Tryz.pinned (OpenSpec.ofChange tableStatesWrong)

/-- 'hollowtreelaw22.EntryNone': WHATEVER THE INPUT: true; the input reads as it did. -/
def entryNoneSpec : ChangeSpec := { name := "entryNone", fn := fun _ => fun
  | [d] => { results := [.lit (.bool true)], args := [d] }
  | _ => none }
def entryNoneRow : OpenClaim := { program := "ytaopifoidbdniaagreat", sum := "12f753cf186f7d9fa208a216610e981e77dc6ee79b2555262a3e44f7a0c26ec3", func := "hollowtree/hollowtreelaw22.EntryNone", spec := "entryNone", unfollowed := true, recurses := true, plainKeys := false, apart := false }
def EntryNoneSaid : Prop := entryNoneRow.holds Tryz.pinned (OpenSpec.ofChange entryNoneSpec)

/-- ITS FALSE NEIGHBOUR: 'it returns false'. Refute it at one input. -/
def entryNoneWrong : ChangeSpec := { name := "entryNone", fn := fun _ => fun
  | [d] => { results := [.lit (.bool false)], args := [d] }
  | _ => none }
def EntryNoneWrongFalsely : Prop := entryNoneRow.holds Tryz.pinned (OpenSpec.ofChange entryNoneWrong)

/-- 'hollowtreelaw13.TableNone': WHATEVER THE INPUT: true; the input reads as it did. -/
def tableNoneSpec : ChangeSpec := { name := "tableNone", fn := fun _ => fun
  | [d1, d2, d3] => { results := [.lit (.bool true)], args := [d1, d2, d3] }
  | _ => none }
def tableNoneRow : OpenClaim := { program := "ytaopifoidbdniaagreat", sum := "12f753cf186f7d9fa208a216610e981e77dc6ee79b2555262a3e44f7a0c26ec3", func := "hollowtree/hollowtreelaw13.TableNone", spec := "tableNone", inPlace := ["maps.clone"], unfollowed := true, recurses := true, plainKeys := false, apart := false }
def TableNoneSaid : Prop := tableNoneRow.holds Tryz.pinned (OpenSpec.ofChange tableNoneSpec)

/-- ITS FALSE NEIGHBOUR: 'it returns false'. Refute it at one input. -/
def tableNoneWrong : ChangeSpec := { name := "tableNone", fn := fun _ => fun
  | [d1, d2, d3] => { results := [.lit (.bool false)], args := [d1, d2, d3] }
  | _ => none }
def TableNoneWrongFalsely : Prop := tableNoneRow.holds Tryz.pinned (OpenSpec.ofChange tableNoneWrong)

/-- 'hollowtreelaw13.TableAborts': WHATEVER THE INPUT: true; the input reads as it did. -/
def tableAbortsSpec : ChangeSpec := { name := "tableAborts", fn := fun _ => fun
  | [d1, d2, d3] => { results := [.lit (.bool true)], args := [d1, d2, d3] }
  | _ => none }
def tableAbortsRow : OpenClaim := { program := "ytaopifoidbdniaagreat", sum := "12f753cf186f7d9fa208a216610e981e77dc6ee79b2555262a3e44f7a0c26ec3", func := "hollowtree/hollowtreelaw13.TableAborts", spec := "tableAborts", inPlace := ["maps.clone"], unfollowed := true, recurses := true, plainKeys := false, apart := false }
def TableAbortsSaid : Prop := tableAbortsRow.holds Tryz.pinned (OpenSpec.ofChange tableAbortsSpec)

/-- ITS FALSE NEIGHBOUR: 'it returns false'. Refute it at one input. -/
def tableAbortsWrong : ChangeSpec := { name := "tableAborts", fn := fun _ => fun
  | [d1, d2, d3] => { results := [.lit (.bool false)], args := [d1, d2, d3] }
  | _ => none }
def TableAbortsWrongFalsely : Prop := tableAbortsRow.holds Tryz.pinned (OpenSpec.ofChange tableAbortsWrong)

/-- 'hollowtreelaw13.TableTurns': WHATEVER THE INPUT: true; the input reads as it did. -/
def tableTurnsSpec : ChangeSpec := { name := "tableTurns", fn := fun _ => fun
  | [d] => { results := [.lit (.bool true)], args := [d] }
  | _ => none }
def tableTurnsRow : OpenClaim := { program := "ytaopifoidbdniaagreat", sum := "12f753cf186f7d9fa208a216610e981e77dc6ee79b2555262a3e44f7a0c26ec3", func := "hollowtree/hollowtreelaw13.TableTurns", spec := "tableTurns", inPlace := ["maps.clone"], unfollowed := true, recurses := true, plainKeys := false, apart := false }
def TableTurnsSaid : Prop := tableTurnsRow.holds Tryz.pinned (OpenSpec.ofChange tableTurnsSpec)

/-- ITS FALSE NEIGHBOUR: 'it returns false'. Refute it at one input. -/
def tableTurnsWrong : ChangeSpec := { name := "tableTurns", fn := fun _ => fun
  | [d] => { results := [.lit (.bool false)], args := [d] }
  | _ => none }
def TableTurnsWrongFalsely : Prop := tableTurnsRow.holds Tryz.pinned (OpenSpec.ofChange tableTurnsWrong)

/-- 'hollowtreelaw13.TableCuts': WHATEVER THE INPUT: true; the input reads as it did. -/
def tableCutsSpec : ChangeSpec := { name := "tableCuts", fn := fun _ => fun
  | [d1, d2, d3] => { results := [.lit (.bool true)], args := [d1, d2, d3] }
  | _ => none }
def tableCutsRow : OpenClaim := { program := "ytaopifoidbdniaagreat", sum := "12f753cf186f7d9fa208a216610e981e77dc6ee79b2555262a3e44f7a0c26ec3", func := "hollowtree/hollowtreelaw13.TableCuts", spec := "tableCuts", inPlace := ["maps.clone"], unfollowed := true, recurses := true, plainKeys := false, apart := false }
def TableCutsSaid : Prop := tableCutsRow.holds Tryz.pinned (OpenSpec.ofChange tableCutsSpec)

/-- ITS FALSE NEIGHBOUR: 'it returns false'. Refute it at one input. -/
def tableCutsWrong : ChangeSpec := { name := "tableCuts", fn := fun _ => fun
  | [d1, d2, d3] => { results := [.lit (.bool false)], args := [d1, d2, d3] }
  | _ => none }
def TableCutsWrongFalsely : Prop := tableCutsRow.holds Tryz.pinned (OpenSpec.ofChange tableCutsWrong)

/-- 'hollowtreelaw22.EntryBatch': WHATEVER THE INPUT: true; the input reads as it did. -/
def entryBatchSpec : ChangeSpec := { name := "entryBatch", fn := fun _ => fun
  | [d1, d2] => { results := [.lit (.bool true)], args := [d1, d2] }
  | _ => none }
def entryBatchRow : OpenClaim := { program := "ytaopifoidbdniaagreat", sum := "12f753cf186f7d9fa208a216610e981e77dc6ee79b2555262a3e44f7a0c26ec3", func := "hollowtree/hollowtreelaw22.EntryBatch", spec := "entryBatch", inPlace := ["internal/bytealg.MakeNoZero"], unfollowed := true, recurses := true, plainKeys := false, apart := false }
def EntryBatchSaid : Prop := entryBatchRow.holds Tryz.pinned (OpenSpec.ofChange entryBatchSpec)

/-- ITS FALSE NEIGHBOUR: 'it returns false'. Refute it at one input. -/
def entryBatchWrong : ChangeSpec := { name := "entryBatch", fn := fun _ => fun
  | [d1, d2] => { results := [.lit (.bool false)], args := [d1, d2] }
  | _ => none }
def EntryBatchWrongFalsely : Prop := entryBatchRow.holds Tryz.pinned (OpenSpec.ofChange entryBatchWrong)

/-- 'hollowtreelaw22.EntryDoes': WHATEVER THE INPUT: true; the input reads as it did. -/
def entryDoesSpec : ChangeSpec := { name := "entryDoes", fn := fun _ => fun
  | [d1, d2] => { results := [.lit (.bool true)], args := [d1, d2] }
  | _ => none }
def entryDoesRow : OpenClaim := { program := "ytaopifoidbdniaagreat", sum := "12f753cf186f7d9fa208a216610e981e77dc6ee79b2555262a3e44f7a0c26ec3", func := "hollowtree/hollowtreelaw22.EntryDoes", spec := "entryDoes", inPlace := ["internal/bytealg.MakeNoZero"], unfollowed := true, recurses := true, plainKeys := false, apart := false }
def EntryDoesSaid : Prop := entryDoesRow.holds Tryz.pinned (OpenSpec.ofChange entryDoesSpec)

/-- ITS FALSE NEIGHBOUR: 'it returns false'. Refute it at one input. -/
def entryDoesWrong : ChangeSpec := { name := "entryDoes", fn := fun _ => fun
  | [d1, d2] => { results := [.lit (.bool false)], args := [d1, d2] }
  | _ => none }
def EntryDoesWrongFalsely : Prop := entryDoesRow.holds Tryz.pinned (OpenSpec.ofChange entryDoesWrong)

/- THE SECOND FORM. 'bulk': how many values and letters a reading holds, each counted each time it is reached (what is shared counts as often as it is met; a slice's spare places count too). A statement '..UptoSaid' is the law's where the arguments, and the package variables that the reading takes, are together of bulk at most 1048576: NARROWER than '..Said'. Prove '..Said' where nothing that the law and all that it calls make is longer than what came in: it says more and counts as full. Else prove '..UptoSaid'. A law counts once. -/
mutual
def uptoBulk {H : Type} : DataW H → Nat
  | .lit (.string bytes) => bytes.length + 1
  | .lit _ => 1
  | .nil => 1
  | .ptr d => uptoBulk d + 1
  | .slice elems spare => uptoBulkAll elems + uptoBulkAll spare + 1
  | .agg parts => uptoBulkAll parts + 1
  | .iface _ d => uptoBulk d + 1
  | .map entries => uptoBulkEntries entries + 1
  | .held _ => 1
def uptoBulkAll {H : Type} : List (DataW H) → Nat
  | [] => 0
  | d :: r => uptoBulk d + uptoBulkAll r
def uptoBulkEntries {H : Type} : List (Lit × DataW H) → Nat
  | [] => 0
  | x :: r => uptoBulkEntry x + uptoBulkEntries r
def uptoBulkEntry {H : Type} : Lit × DataW H → Nat
  | (.string bytes, d) => bytes.length + uptoBulk d + 1
  | (_, d) => uptoBulk d + 1
 end
def uptoSmall : (H : Type) → List (DataW H) → Bool := fun _ ds => decide (uptoBulkAll ds ≤ 1048576)
def OpenSpec.upto (s : _root_.Go.ChangeSpec) : _root_.Go.OpenSpec := { _root_.Go.OpenSpec.ofChange s with cond := some uptoSmall }

/-- 'hollowtreelaw13.TableStates', WHERE WHAT IT READS IS OF BULK AT MOST 1048576: true; the input reads as it did. -/
def tableStatesUptoRow : OpenClaim := { program := "ytaopifoidbdniaagreat", sum := "12f753cf186f7d9fa208a216610e981e77dc6ee79b2555262a3e44f7a0c26ec3", func := "hollowtree/hollowtreelaw13.TableStates", spec := "tableStates", inPlace := ["maps.clone"], unfollowed := true, recurses := true, plainKeys := false, apart := false, narrowed := true }
def TableStatesUptoSaid : Prop := tableStatesUptoRow.holds Tryz.pinned (OpenSpec.upto tableStatesSpec)

/-- 'hollowtreelaw22.EntryNone', WHERE WHAT IT READS IS OF BULK AT MOST 1048576: true; the input reads as it did. -/
def entryNoneUptoRow : OpenClaim := { program := "ytaopifoidbdniaagreat", sum := "12f753cf186f7d9fa208a216610e981e77dc6ee79b2555262a3e44f7a0c26ec3", func := "hollowtree/hollowtreelaw22.EntryNone", spec := "entryNone", unfollowed := true, recurses := true, plainKeys := false, apart := false, narrowed := true }
def EntryNoneUptoSaid : Prop := entryNoneUptoRow.holds Tryz.pinned (OpenSpec.upto entryNoneSpec)

/-- 'hollowtreelaw13.TableNone', WHERE WHAT IT READS IS OF BULK AT MOST 1048576: true; the input reads as it did. -/
def tableNoneUptoRow : OpenClaim := { program := "ytaopifoidbdniaagreat", sum := "12f753cf186f7d9fa208a216610e981e77dc6ee79b2555262a3e44f7a0c26ec3", func := "hollowtree/hollowtreelaw13.TableNone", spec := "tableNone", inPlace := ["maps.clone"], unfollowed := true, recurses := true, plainKeys := false, apart := false, narrowed := true }
def TableNoneUptoSaid : Prop := tableNoneUptoRow.holds Tryz.pinned (OpenSpec.upto tableNoneSpec)

/-- 'hollowtreelaw13.TableAborts', WHERE WHAT IT READS IS OF BULK AT MOST 1048576: true; the input reads as it did. -/
def tableAbortsUptoRow : OpenClaim := { program := "ytaopifoidbdniaagreat", sum := "12f753cf186f7d9fa208a216610e981e77dc6ee79b2555262a3e44f7a0c26ec3", func := "hollowtree/hollowtreelaw13.TableAborts", spec := "tableAborts", inPlace := ["maps.clone"], unfollowed := true, recurses := true, plainKeys := false, apart := false, narrowed := true }
def TableAbortsUptoSaid : Prop := tableAbortsUptoRow.holds Tryz.pinned (OpenSpec.upto tableAbortsSpec)

/-- 'hollowtreelaw13.TableTurns', WHERE WHAT IT READS IS OF BULK AT MOST 1048576: true; the input reads as it did. -/
def tableTurnsUptoRow : OpenClaim := { program := "ytaopifoidbdniaagreat", sum := "12f753cf186f7d9fa208a216610e981e77dc6ee79b2555262a3e44f7a0c26ec3", func := "hollowtree/hollowtreelaw13.TableTurns", spec := "tableTurns", inPlace := ["maps.clone"], unfollowed := true, recurses := true, plainKeys := false, apart := false, narrowed := true }
def TableTurnsUptoSaid : Prop := tableTurnsUptoRow.holds Tryz.pinned (OpenSpec.upto tableTurnsSpec)

/-- 'hollowtreelaw13.TableCuts', WHERE WHAT IT READS IS OF BULK AT MOST 1048576: true; the input reads as it did. -/
def tableCutsUptoRow : OpenClaim := { program := "ytaopifoidbdniaagreat", sum := "12f753cf186f7d9fa208a216610e981e77dc6ee79b2555262a3e44f7a0c26ec3", func := "hollowtree/hollowtreelaw13.TableCuts", spec := "tableCuts", inPlace := ["maps.clone"], unfollowed := true, recurses := true, plainKeys := false, apart := false, narrowed := true }
def TableCutsUptoSaid : Prop := tableCutsUptoRow.holds Tryz.pinned (OpenSpec.upto tableCutsSpec)

/-- 'hollowtreelaw22.EntryBatch', WHERE WHAT IT READS IS OF BULK AT MOST 1048576: true; the input reads as it did. -/
def entryBatchUptoRow : OpenClaim := { program := "ytaopifoidbdniaagreat", sum := "12f753cf186f7d9fa208a216610e981e77dc6ee79b2555262a3e44f7a0c26ec3", func := "hollowtree/hollowtreelaw22.EntryBatch", spec := "entryBatch", inPlace := ["internal/bytealg.MakeNoZero"], unfollowed := true, recurses := true, plainKeys := false, apart := false, narrowed := true }
def EntryBatchUptoSaid : Prop := entryBatchUptoRow.holds Tryz.pinned (OpenSpec.upto entryBatchSpec)

/-- 'hollowtreelaw22.EntryDoes', WHERE WHAT IT READS IS OF BULK AT MOST 1048576: true; the input reads as it did. -/
def entryDoesUptoRow : OpenClaim := { program := "ytaopifoidbdniaagreat", sum := "12f753cf186f7d9fa208a216610e981e77dc6ee79b2555262a3e44f7a0c26ec3", func := "hollowtree/hollowtreelaw22.EntryDoes", spec := "entryDoes", inPlace := ["internal/bytealg.MakeNoZero"], unfollowed := true, recurses := true, plainKeys := false, apart := false, narrowed := true }
def EntryDoesUptoSaid : Prop := entryDoesUptoRow.holds Tryz.pinned (OpenSpec.upto entryDoesSpec)

end Rows
end Go.Proofs.YtaopifoidbdniaaGreat
