/-
  No cell of these rows narrows 'for every input' (looked for: loops, veiled, ifaces, maps, wideKeys, modest, calm, conditions, laid).
  DERIVED. THE GIVEN ROWS OF THIS SEAT. 12 by the template 'for every input the law returns true; each argument reads behind the call as it read before'; 0 by the template 'total and deterministic' (their statements: YtilifeeddpkclaaTotals.lean).
  GIVEN WITH THE SEED: the statements are not yours to turn. If you find one false, say at which input.
  Laid BY PROGRAM, IN A SANDBOX (cutbox-rows.mjs): the forced cells as the released guide's own fill.sh prints them over the translation e792866f0c88ea78… (all of the seat's roots in one cut). By AI agents, Wed Nov 11 2026. No macro, syntax, notation, axiom, sorry.
-/
import Derived.Test.YtilifeeddpkclaaChecked
import GoSem.Claim
import GoSem.ClaimJoined
import GoSem.ClaimMapViews
import Derived.JoinedTies
import Derived.KernelRfl
namespace Go.Proofs.Ytilifeeddpkclaa
/- THE CELL 'sum', in the pinned program and in every row, IS THE sha256 OF THE DUMP (.gsa) THAT YtilifeeddpkclaaProg.lean LOADS. Nothing in Lean hashes anything: it is a label: what it is worth is what the hold of that sum in a sandbox is worth. -/
noncomputable def Try.pinned : Pinned := { name := "ytilifeeddpkclaa", sum := "e792866f0c88ea789c2813115d4fc590f034ff4b2f4b612c4b76a7a32812cfdc", checked := Try.checked }
namespace Rows
def none {H : Type} : Left H := { results := [], args := [] }

/-- 'hollowtreelaw10.DiskLast': WHATEVER THE INPUT: true; the input reads as it did. -/
def diskLastSpec : ChangeSpec := { name := "diskLast", fn := fun _ => fun
  | [d] => { results := [.lit (.bool true)], args := [d] }
  | _ => none }
def diskLastRow : OpenClaim := { program := "ytilifeeddpkclaa", sum := "e792866f0c88ea789c2813115d4fc590f034ff4b2f4b612c4b76a7a32812cfdc", func := "hollowtree/hollowtreelaw10.DiskLast", spec := "diskLast", unfollowed := true, recurses := true, apart := false }
def DiskLastSaid : Prop := diskLastRow.holds Try.pinned (OpenSpec.ofChange diskLastSpec)

/-- ITS FALSE NEIGHBOUR: 'it returns false'. Refute it at one input. -/
def diskLastWrong : ChangeSpec := { name := "diskLast", fn := fun _ => fun
  | [d] => { results := [.lit (.bool false)], args := [d] }
  | _ => none }
def DiskLastWrongFalsely : Prop := diskLastRow.holds Try.pinned (OpenSpec.ofChange diskLastWrong)

/-- 'hollowtreelaw10.DiskDoes': WHATEVER THE INPUT: true; the input reads as it did. -/
def diskDoesSpec : ChangeSpec := { name := "diskDoes", fn := fun _ => fun
  | [d1, d2] => { results := [.lit (.bool true)], args := [d1, d2] }
  | _ => none }
def diskDoesRow : OpenClaim := { program := "ytilifeeddpkclaa", sum := "e792866f0c88ea789c2813115d4fc590f034ff4b2f4b612c4b76a7a32812cfdc", func := "hollowtree/hollowtreelaw10.DiskDoes", spec := "diskDoes", unfollowed := true, recurses := true, apart := false }
def DiskDoesSaid : Prop := diskDoesRow.holds Try.pinned (OpenSpec.ofChange diskDoesSpec)

/-- ITS FALSE NEIGHBOUR: 'it returns false'. Refute it at one input. -/
def diskDoesWrong : ChangeSpec := { name := "diskDoes", fn := fun _ => fun
  | [d1, d2] => { results := [.lit (.bool false)], args := [d1, d2] }
  | _ => none }
def DiskDoesWrongFalsely : Prop := diskDoesRow.holds Try.pinned (OpenSpec.ofChange diskDoesWrong)

/-- 'hollowtreelaw10.DiskArmed': WHATEVER THE INPUT: true; the input reads as it did. -/
def diskArmedSpec : ChangeSpec := { name := "diskArmed", fn := fun _ => fun
  | [d1, d2] => { results := [.lit (.bool true)], args := [d1, d2] }
  | _ => none }
def diskArmedRow : OpenClaim := { program := "ytilifeeddpkclaa", sum := "e792866f0c88ea789c2813115d4fc590f034ff4b2f4b612c4b76a7a32812cfdc", func := "hollowtree/hollowtreelaw10.DiskArmed", spec := "diskArmed", unfollowed := true, recurses := true, apart := false }
def DiskArmedSaid : Prop := diskArmedRow.holds Try.pinned (OpenSpec.ofChange diskArmedSpec)

/-- ITS FALSE NEIGHBOUR: 'it returns false'. Refute it at one input. -/
def diskArmedWrong : ChangeSpec := { name := "diskArmed", fn := fun _ => fun
  | [d1, d2] => { results := [.lit (.bool false)], args := [d1, d2] }
  | _ => none }
def DiskArmedWrongFalsely : Prop := diskArmedRow.holds Try.pinned (OpenSpec.ofChange diskArmedWrong)

/-- 'hollowtreelaw10.DiskSafe': WHATEVER THE INPUT: true; the input reads as it did. -/
def diskSafeSpec : ChangeSpec := { name := "diskSafe", fn := fun _ => fun
  | [d1, d2] => { results := [.lit (.bool true)], args := [d1, d2] }
  | _ => none }
def diskSafeRow : OpenClaim := { program := "ytilifeeddpkclaa", sum := "e792866f0c88ea789c2813115d4fc590f034ff4b2f4b612c4b76a7a32812cfdc", func := "hollowtree/hollowtreelaw10.DiskSafe", spec := "diskSafe", unfollowed := true, recurses := true, apart := false }
def DiskSafeSaid : Prop := diskSafeRow.holds Try.pinned (OpenSpec.ofChange diskSafeSpec)

/-- ITS FALSE NEIGHBOUR: 'it returns false'. Refute it at one input. -/
def diskSafeWrong : ChangeSpec := { name := "diskSafe", fn := fun _ => fun
  | [d1, d2] => { results := [.lit (.bool false)], args := [d1, d2] }
  | _ => none }
def DiskSafeWrongFalsely : Prop := diskSafeRow.holds Try.pinned (OpenSpec.ofChange diskSafeWrong)

/-- 'hollowtreelaw10.DiskCopies': WHATEVER THE INPUT: true; the input reads as it did. -/
def diskCopiesSpec : ChangeSpec := { name := "diskCopies", fn := fun _ => fun
  | [d1, d2, d3] => { results := [.lit (.bool true)], args := [d1, d2, d3] }
  | _ => none }
def diskCopiesRow : OpenClaim := { program := "ytilifeeddpkclaa", sum := "e792866f0c88ea789c2813115d4fc590f034ff4b2f4b612c4b76a7a32812cfdc", func := "hollowtree/hollowtreelaw10.DiskCopies", spec := "diskCopies", unfollowed := true, recurses := true, apart := false }
def DiskCopiesSaid : Prop := diskCopiesRow.holds Try.pinned (OpenSpec.ofChange diskCopiesSpec)

/-- ITS FALSE NEIGHBOUR: 'it returns false'. Refute it at one input. -/
def diskCopiesWrong : ChangeSpec := { name := "diskCopies", fn := fun _ => fun
  | [d1, d2, d3] => { results := [.lit (.bool false)], args := [d1, d2, d3] }
  | _ => none }
def DiskCopiesWrongFalsely : Prop := diskCopiesRow.holds Try.pinned (OpenSpec.ofChange diskCopiesWrong)

/-- 'hollowtreelaw10.DiskNone': WHATEVER THE INPUT: true; the input reads as it did. -/
def diskNoneSpec : ChangeSpec := { name := "diskNone", fn := fun _ => fun
  | [d] => { results := [.lit (.bool true)], args := [d] }
  | _ => none }
def diskNoneRow : OpenClaim := { program := "ytilifeeddpkclaa", sum := "e792866f0c88ea789c2813115d4fc590f034ff4b2f4b612c4b76a7a32812cfdc", func := "hollowtree/hollowtreelaw10.DiskNone", spec := "diskNone", unfollowed := true, recurses := true, apart := false }
def DiskNoneSaid : Prop := diskNoneRow.holds Try.pinned (OpenSpec.ofChange diskNoneSpec)

/-- ITS FALSE NEIGHBOUR: 'it returns false'. Refute it at one input. -/
def diskNoneWrong : ChangeSpec := { name := "diskNone", fn := fun _ => fun
  | [d] => { results := [.lit (.bool false)], args := [d] }
  | _ => none }
def DiskNoneWrongFalsely : Prop := diskNoneRow.holds Try.pinned (OpenSpec.ofChange diskNoneWrong)

/-- 'hollowtreelaw11.ExtentLogs': WHATEVER THE INPUT: true; the input reads as it did. -/
def extentLogsSpec : ChangeSpec := { name := "extentLogs", fn := fun _ => fun
  | [d1, d2, d3] => { results := [.lit (.bool true)], args := [d1, d2, d3] }
  | _ => none }
def extentLogsRow : OpenClaim := { program := "ytilifeeddpkclaa", sum := "e792866f0c88ea789c2813115d4fc590f034ff4b2f4b612c4b76a7a32812cfdc", func := "hollowtree/hollowtreelaw11.ExtentLogs", spec := "extentLogs", unfollowed := true, recurses := true, apart := false }
def ExtentLogsSaid : Prop := extentLogsRow.holds Try.pinned (OpenSpec.ofChange extentLogsSpec)

/-- ITS FALSE NEIGHBOUR: 'it returns false'. Refute it at one input. -/
def extentLogsWrong : ChangeSpec := { name := "extentLogs", fn := fun _ => fun
  | [d1, d2, d3] => { results := [.lit (.bool false)], args := [d1, d2, d3] }
  | _ => none }
def ExtentLogsWrongFalsely : Prop := extentLogsRow.holds Try.pinned (OpenSpec.ofChange extentLogsWrong)

/-- 'hollowtreelaw11.ExtentOpens': WHATEVER THE INPUT: true; the input reads as it did. -/
def extentOpensSpec : ChangeSpec := { name := "extentOpens", fn := fun _ => fun
  | [d] => { results := [.lit (.bool true)], args := [d] }
  | _ => none }
def extentOpensRow : OpenClaim := { program := "ytilifeeddpkclaa", sum := "e792866f0c88ea789c2813115d4fc590f034ff4b2f4b612c4b76a7a32812cfdc", func := "hollowtree/hollowtreelaw11.ExtentOpens", spec := "extentOpens", unfollowed := true, recurses := true, apart := false }
def ExtentOpensSaid : Prop := extentOpensRow.holds Try.pinned (OpenSpec.ofChange extentOpensSpec)

/-- ITS FALSE NEIGHBOUR: 'it returns false'. Refute it at one input. -/
def extentOpensWrong : ChangeSpec := { name := "extentOpens", fn := fun _ => fun
  | [d] => { results := [.lit (.bool false)], args := [d] }
  | _ => none }
def ExtentOpensWrongFalsely : Prop := extentOpensRow.holds Try.pinned (OpenSpec.ofChange extentOpensWrong)

/-- 'hollowtreelaw11.ExtentTakes': WHATEVER THE INPUT: true; the input reads as it did. -/
def extentTakesSpec : ChangeSpec := { name := "extentTakes", fn := fun _ => fun
  | [d1, d2] => { results := [.lit (.bool true)], args := [d1, d2] }
  | _ => none }
def extentTakesRow : OpenClaim := { program := "ytilifeeddpkclaa", sum := "e792866f0c88ea789c2813115d4fc590f034ff4b2f4b612c4b76a7a32812cfdc", func := "hollowtree/hollowtreelaw11.ExtentTakes", spec := "extentTakes", unfollowed := true, recurses := true, apart := false }
def ExtentTakesSaid : Prop := extentTakesRow.holds Try.pinned (OpenSpec.ofChange extentTakesSpec)

/-- ITS FALSE NEIGHBOUR: 'it returns false'. Refute it at one input. -/
def extentTakesWrong : ChangeSpec := { name := "extentTakes", fn := fun _ => fun
  | [d1, d2] => { results := [.lit (.bool false)], args := [d1, d2] }
  | _ => none }
def ExtentTakesWrongFalsely : Prop := extentTakesRow.holds Try.pinned (OpenSpec.ofChange extentTakesWrong)

/-- 'hollowtreelaw11.ExtentCuts': WHATEVER THE INPUT: true; the input reads as it did. -/
def extentCutsSpec : ChangeSpec := { name := "extentCuts", fn := fun _ => fun
  | [d1, d2, d3] => { results := [.lit (.bool true)], args := [d1, d2, d3] }
  | _ => none }
def extentCutsRow : OpenClaim := { program := "ytilifeeddpkclaa", sum := "e792866f0c88ea789c2813115d4fc590f034ff4b2f4b612c4b76a7a32812cfdc", func := "hollowtree/hollowtreelaw11.ExtentCuts", spec := "extentCuts", unfollowed := true, recurses := true, apart := false }
def ExtentCutsSaid : Prop := extentCutsRow.holds Try.pinned (OpenSpec.ofChange extentCutsSpec)

/-- ITS FALSE NEIGHBOUR: 'it returns false'. Refute it at one input. -/
def extentCutsWrong : ChangeSpec := { name := "extentCuts", fn := fun _ => fun
  | [d1, d2, d3] => { results := [.lit (.bool false)], args := [d1, d2, d3] }
  | _ => none }
def ExtentCutsWrongFalsely : Prop := extentCutsRow.holds Try.pinned (OpenSpec.ofChange extentCutsWrong)

/-- 'hollowtreelaw11.ExtentApart': WHATEVER THE INPUT: true; the input reads as it did. -/
def extentApartSpec : ChangeSpec := { name := "extentApart", fn := fun _ => fun
  | [d1, d2] => { results := [.lit (.bool true)], args := [d1, d2] }
  | _ => none }
def extentApartRow : OpenClaim := { program := "ytilifeeddpkclaa", sum := "e792866f0c88ea789c2813115d4fc590f034ff4b2f4b612c4b76a7a32812cfdc", func := "hollowtree/hollowtreelaw11.ExtentApart", spec := "extentApart", unfollowed := true, recurses := true, apart := false }
def ExtentApartSaid : Prop := extentApartRow.holds Try.pinned (OpenSpec.ofChange extentApartSpec)

/-- ITS FALSE NEIGHBOUR: 'it returns false'. Refute it at one input. -/
def extentApartWrong : ChangeSpec := { name := "extentApart", fn := fun _ => fun
  | [d1, d2] => { results := [.lit (.bool false)], args := [d1, d2] }
  | _ => none }
def ExtentApartWrongFalsely : Prop := extentApartRow.holds Try.pinned (OpenSpec.ofChange extentApartWrong)

/-- 'hollowtreelaw11.ExtentNone': WHATEVER THE INPUT: true; the input reads as it did. -/
def extentNoneSpec : ChangeSpec := { name := "extentNone", fn := fun _ => fun
  | [d1, d2] => { results := [.lit (.bool true)], args := [d1, d2] }
  | _ => none }
def extentNoneRow : OpenClaim := { program := "ytilifeeddpkclaa", sum := "e792866f0c88ea789c2813115d4fc590f034ff4b2f4b612c4b76a7a32812cfdc", func := "hollowtree/hollowtreelaw11.ExtentNone", spec := "extentNone", unfollowed := true, recurses := true, apart := false }
def ExtentNoneSaid : Prop := extentNoneRow.holds Try.pinned (OpenSpec.ofChange extentNoneSpec)

/-- ITS FALSE NEIGHBOUR: 'it returns false'. Refute it at one input. -/
def extentNoneWrong : ChangeSpec := { name := "extentNone", fn := fun _ => fun
  | [d1, d2] => { results := [.lit (.bool false)], args := [d1, d2] }
  | _ => none }
def ExtentNoneWrongFalsely : Prop := extentNoneRow.holds Try.pinned (OpenSpec.ofChange extentNoneWrong)

/- THE SECOND FORM. 'bulk': how many values and letters a reading holds, each counted each time it is reached (what is shared counts as often as it is met; a slice's spare places count too). A statement '..UptoSaid' is the law's where the arguments, and the package variables that the reading takes, are together of bulk at most 1048576: NARROWER than '..Said'. Prove '..Said' where nothing that the law and all that it calls make is longer than what came in: it says more and counts as full. Else prove '..UptoSaid'. A law counts once. -/
mutual
def uptoBulk {H : Type} : DataW H → Nat
  | .lit (.string bytes) => bytes.length + 1
  | .lit _ => 1
  | .nil => 1
  | .ptr d => uptoBulk d + 1
  | .slice elems spare => uptoBulkAll elems + uptoBulkAll spare + 1
  | .agg parts => uptoBulkAll parts + 1
  | .iface _ d => uptoBulk d + 1
  | .map entries => uptoBulkEntries entries + 1
  | .held _ => 1
def uptoBulkAll {H : Type} : List (DataW H) → Nat
  | [] => 0
  | d :: r => uptoBulk d + uptoBulkAll r
def uptoBulkEntries {H : Type} : List (Lit × DataW H) → Nat
  | [] => 0
  | x :: r => uptoBulkEntry x + uptoBulkEntries r
def uptoBulkEntry {H : Type} : Lit × DataW H → Nat
  | (.string bytes, d) => bytes.length + uptoBulk d + 1
  | (_, d) => uptoBulk d + 1
 end
def uptoSmall : (H : Type) → List (DataW H) → Bool := fun _ ds => decide (uptoBulkAll ds ≤ 1048576)
def OpenSpec.upto (s : _root_.Go.ChangeSpec) : _root_.Go.OpenSpec := { _root_.Go.OpenSpec.ofChange s with cond := some uptoSmall }

/-- 'hollowtreelaw10.DiskLast', WHERE WHAT IT READS IS OF BULK AT MOST 1048576: true; the input reads as it did. -/
def diskLastUptoRow : OpenClaim := { program := "ytilifeeddpkclaa", sum := "e792866f0c88ea789c2813115d4fc590f034ff4b2f4b612c4b76a7a32812cfdc", func := "hollowtree/hollowtreelaw10.DiskLast", spec := "diskLast", unfollowed := true, recurses := true, apart := false, narrowed := true }
def DiskLastUptoSaid : Prop := diskLastUptoRow.holds Try.pinned (OpenSpec.upto diskLastSpec)

/-- 'hollowtreelaw10.DiskDoes', WHERE WHAT IT READS IS OF BULK AT MOST 1048576: true; the input reads as it did. -/
def diskDoesUptoRow : OpenClaim := { program := "ytilifeeddpkclaa", sum := "e792866f0c88ea789c2813115d4fc590f034ff4b2f4b612c4b76a7a32812cfdc", func := "hollowtree/hollowtreelaw10.DiskDoes", spec := "diskDoes", unfollowed := true, recurses := true, apart := false, narrowed := true }
def DiskDoesUptoSaid : Prop := diskDoesUptoRow.holds Try.pinned (OpenSpec.upto diskDoesSpec)

/-- 'hollowtreelaw10.DiskArmed', WHERE WHAT IT READS IS OF BULK AT MOST 1048576: true; the input reads as it did. -/
def diskArmedUptoRow : OpenClaim := { program := "ytilifeeddpkclaa", sum := "e792866f0c88ea789c2813115d4fc590f034ff4b2f4b612c4b76a7a32812cfdc", func := "hollowtree/hollowtreelaw10.DiskArmed", spec := "diskArmed", unfollowed := true, recurses := true, apart := false, narrowed := true }
def DiskArmedUptoSaid : Prop := diskArmedUptoRow.holds Try.pinned (OpenSpec.upto diskArmedSpec)

/-- 'hollowtreelaw10.DiskSafe', WHERE WHAT IT READS IS OF BULK AT MOST 1048576: true; the input reads as it did. -/
def diskSafeUptoRow : OpenClaim := { program := "ytilifeeddpkclaa", sum := "e792866f0c88ea789c2813115d4fc590f034ff4b2f4b612c4b76a7a32812cfdc", func := "hollowtree/hollowtreelaw10.DiskSafe", spec := "diskSafe", unfollowed := true, recurses := true, apart := false, narrowed := true }
def DiskSafeUptoSaid : Prop := diskSafeUptoRow.holds Try.pinned (OpenSpec.upto diskSafeSpec)

/-- 'hollowtreelaw10.DiskCopies', WHERE WHAT IT READS IS OF BULK AT MOST 1048576: true; the input reads as it did. -/
def diskCopiesUptoRow : OpenClaim := { program := "ytilifeeddpkclaa", sum := "e792866f0c88ea789c2813115d4fc590f034ff4b2f4b612c4b76a7a32812cfdc", func := "hollowtree/hollowtreelaw10.DiskCopies", spec := "diskCopies", unfollowed := true, recurses := true, apart := false, narrowed := true }
def DiskCopiesUptoSaid : Prop := diskCopiesUptoRow.holds Try.pinned (OpenSpec.upto diskCopiesSpec)

/-- 'hollowtreelaw10.DiskNone', WHERE WHAT IT READS IS OF BULK AT MOST 1048576: true; the input reads as it did. -/
def diskNoneUptoRow : OpenClaim := { program := "ytilifeeddpkclaa", sum := "e792866f0c88ea789c2813115d4fc590f034ff4b2f4b612c4b76a7a32812cfdc", func := "hollowtree/hollowtreelaw10.DiskNone", spec := "diskNone", unfollowed := true, recurses := true, apart := false, narrowed := true }
def DiskNoneUptoSaid : Prop := diskNoneUptoRow.holds Try.pinned (OpenSpec.upto diskNoneSpec)

/-- 'hollowtreelaw11.ExtentLogs', WHERE WHAT IT READS IS OF BULK AT MOST 1048576: true; the input reads as it did. -/
def extentLogsUptoRow : OpenClaim := { program := "ytilifeeddpkclaa", sum := "e792866f0c88ea789c2813115d4fc590f034ff4b2f4b612c4b76a7a32812cfdc", func := "hollowtree/hollowtreelaw11.ExtentLogs", spec := "extentLogs", unfollowed := true, recurses := true, apart := false, narrowed := true }
def ExtentLogsUptoSaid : Prop := extentLogsUptoRow.holds Try.pinned (OpenSpec.upto extentLogsSpec)

/-- 'hollowtreelaw11.ExtentOpens', WHERE WHAT IT READS IS OF BULK AT MOST 1048576: true; the input reads as it did. -/
def extentOpensUptoRow : OpenClaim := { program := "ytilifeeddpkclaa", sum := "e792866f0c88ea789c2813115d4fc590f034ff4b2f4b612c4b76a7a32812cfdc", func := "hollowtree/hollowtreelaw11.ExtentOpens", spec := "extentOpens", unfollowed := true, recurses := true, apart := false, narrowed := true }
def ExtentOpensUptoSaid : Prop := extentOpensUptoRow.holds Try.pinned (OpenSpec.upto extentOpensSpec)

/-- 'hollowtreelaw11.ExtentTakes', WHERE WHAT IT READS IS OF BULK AT MOST 1048576: true; the input reads as it did. -/
def extentTakesUptoRow : OpenClaim := { program := "ytilifeeddpkclaa", sum := "e792866f0c88ea789c2813115d4fc590f034ff4b2f4b612c4b76a7a32812cfdc", func := "hollowtree/hollowtreelaw11.ExtentTakes", spec := "extentTakes", unfollowed := true, recurses := true, apart := false, narrowed := true }
def ExtentTakesUptoSaid : Prop := extentTakesUptoRow.holds Try.pinned (OpenSpec.upto extentTakesSpec)

/-- 'hollowtreelaw11.ExtentCuts', WHERE WHAT IT READS IS OF BULK AT MOST 1048576: true; the input reads as it did. -/
def extentCutsUptoRow : OpenClaim := { program := "ytilifeeddpkclaa", sum := "e792866f0c88ea789c2813115d4fc590f034ff4b2f4b612c4b76a7a32812cfdc", func := "hollowtree/hollowtreelaw11.ExtentCuts", spec := "extentCuts", unfollowed := true, recurses := true, apart := false, narrowed := true }
def ExtentCutsUptoSaid : Prop := extentCutsUptoRow.holds Try.pinned (OpenSpec.upto extentCutsSpec)

/-- 'hollowtreelaw11.ExtentApart', WHERE WHAT IT READS IS OF BULK AT MOST 1048576: true; the input reads as it did. -/
def extentApartUptoRow : OpenClaim := { program := "ytilifeeddpkclaa", sum := "e792866f0c88ea789c2813115d4fc590f034ff4b2f4b612c4b76a7a32812cfdc", func := "hollowtree/hollowtreelaw11.ExtentApart", spec := "extentApart", unfollowed := true, recurses := true, apart := false, narrowed := true }
def ExtentApartUptoSaid : Prop := extentApartUptoRow.holds Try.pinned (OpenSpec.upto extentApartSpec)

/-- 'hollowtreelaw11.ExtentNone', WHERE WHAT IT READS IS OF BULK AT MOST 1048576: true; the input reads as it did. -/
def extentNoneUptoRow : OpenClaim := { program := "ytilifeeddpkclaa", sum := "e792866f0c88ea789c2813115d4fc590f034ff4b2f4b612c4b76a7a32812cfdc", func := "hollowtree/hollowtreelaw11.ExtentNone", spec := "extentNone", unfollowed := true, recurses := true, apart := false, narrowed := true }
def ExtentNoneUptoSaid : Prop := extentNoneUptoRow.holds Try.pinned (OpenSpec.upto extentNoneSpec)

end Rows
end Go.Proofs.Ytilifeeddpkclaa
