/-
  NARROWER THAN 'FOR EVERY INPUT', by the rows' own cells (each row's printed sentence says how): WatchShapes: laid · WatchRuns: laid · WatchSums: laid · WatchTakes: laid · WatchSeals: laid · WatchCovers: laid · WatchBursts: laid · WatchTells: laid.
  DERIVED. THE GIVEN ROWS OF THIS SEAT. 8 by the template 'for every input the law returns true; each argument reads behind the call as it read before'; 0 by the template 'total and deterministic' (their statements: YtfohdnclpbipeaaDoorTotals.lean).
  GIVEN WITH THE SEED: the statements are not yours to turn. If you find one false, say at which input.
  Laid BY PROGRAM, IN A SANDBOX (cutbox-rows.mjs): the forced cells as the released guide's own fill.sh prints them over the translation 04edb49709c71233… (all of the seat's roots in one cut). By AI agents, Wed Nov 11 2026. No macro, syntax, notation, axiom, sorry.
-/
import Derived.Test.YtfohdnclpbipeaaDoorChecked
import GoSem.Claim
import GoSem.ClaimJoined
import GoSem.ClaimMapViews
import Derived.JoinedTies
import Derived.KernelRfl
namespace Go.Proofs.YtfohdnclpbipeaaDoor
/- THE CELL 'sum', in the pinned program and in every row, IS THE sha256 OF THE DUMP (.gsa) THAT YtfohdnclpbipeaaDoorProg.lean LOADS. Nothing in Lean hashes anything: it is a label: what it is worth is what the hold of that sum in a sandbox is worth. -/
noncomputable def Tryd.pinned : Pinned := { name := "ytfohdnclpbipeaadoor", sum := "04edb49709c712330b4fa5617903ab4792e093fe3afc8b68bca1b26f14d63dde", checked := Tryd.checked }
namespace Rows
def none {H : Type} : Left H := { results := [], args := [] }

/- WHAT THE LISTED PACKAGE-LEVEL VARIABLES READ AS WHEN THE CALL BEGINS. Each datum BY PROGRAM (the guide's laid-datum.mjs) off the statement by which the dump's own 'gosem.cut.vars' lays the variable. In a bare row this is a premise. The card (YtfohdnclpbipeaaDoorCards.lean) ties it to the program's text. -/
def laid_math_bits_deBruijn32tab {H : Type} : DataW H := .agg [.lit (.int .u8 0), .lit (.int .u8 1), .lit (.int .u8 28), .lit (.int .u8 2), .lit (.int .u8 29), .lit (.int .u8 14), .lit (.int .u8 24), .lit (.int .u8 3), .lit (.int .u8 30), .lit (.int .u8 22), .lit (.int .u8 20), .lit (.int .u8 15), .lit (.int .u8 25), .lit (.int .u8 17), .lit (.int .u8 4), .lit (.int .u8 8), .lit (.int .u8 31), .lit (.int .u8 27), .lit (.int .u8 13), .lit (.int .u8 23), .lit (.int .u8 21), .lit (.int .u8 19), .lit (.int .u8 16), .lit (.int .u8 7), .lit (.int .u8 26), .lit (.int .u8 12), .lit (.int .u8 18), .lit (.int .u8 6), .lit (.int .u8 11), .lit (.int .u8 5), .lit (.int .u8 10), .lit (.int .u8 9)]
def laid_math_bits_deBruijn64tab {H : Type} : DataW H := .agg [.lit (.int .u8 0), .lit (.int .u8 1), .lit (.int .u8 56), .lit (.int .u8 2), .lit (.int .u8 57), .lit (.int .u8 49), .lit (.int .u8 28), .lit (.int .u8 3), .lit (.int .u8 61), .lit (.int .u8 58), .lit (.int .u8 42), .lit (.int .u8 50), .lit (.int .u8 38), .lit (.int .u8 29), .lit (.int .u8 17), .lit (.int .u8 4), .lit (.int .u8 62), .lit (.int .u8 47), .lit (.int .u8 59), .lit (.int .u8 36), .lit (.int .u8 45), .lit (.int .u8 43), .lit (.int .u8 51), .lit (.int .u8 22), .lit (.int .u8 53), .lit (.int .u8 39), .lit (.int .u8 33), .lit (.int .u8 30), .lit (.int .u8 24), .lit (.int .u8 18), .lit (.int .u8 12), .lit (.int .u8 5), .lit (.int .u8 63), .lit (.int .u8 55), .lit (.int .u8 48), .lit (.int .u8 27), .lit (.int .u8 60), .lit (.int .u8 41), .lit (.int .u8 37), .lit (.int .u8 16), .lit (.int .u8 46), .lit (.int .u8 35), .lit (.int .u8 44), .lit (.int .u8 21), .lit (.int .u8 52), .lit (.int .u8 32), .lit (.int .u8 23), .lit (.int .u8 11), .lit (.int .u8 54), .lit (.int .u8 26), .lit (.int .u8 40), .lit (.int .u8 15), .lit (.int .u8 34), .lit (.int .u8 20), .lit (.int .u8 31), .lit (.int .u8 10), .lit (.int .u8 25), .lit (.int .u8 14), .lit (.int .u8 19), .lit (.int .u8 9), .lit (.int .u8 13), .lit (.int .u8 8), .lit (.int .u8 7), .lit (.int .u8 6)]
def laid_internal_strconv_uint64pow10 {H : Type} : DataW H := .agg [.lit (.int .u64 1), .lit (.int .u64 10), .lit (.int .u64 100), .lit (.int .u64 1000), .lit (.int .u64 10000), .lit (.int .u64 100000), .lit (.int .u64 1000000), .lit (.int .u64 10000000), .lit (.int .u64 100000000), .lit (.int .u64 1000000000), .lit (.int .u64 10000000000), .lit (.int .u64 100000000000), .lit (.int .u64 1000000000000), .lit (.int .u64 10000000000000), .lit (.int .u64 100000000000000), .lit (.int .u64 1000000000000000), .lit (.int .u64 10000000000000000), .lit (.int .u64 100000000000000000), .lit (.int .u64 1000000000000000000), .lit (.int .u64 10000000000000000000)]

/-- 'hollowtreelaw30.WatchShapes': WHATEVER THE INPUT: true; the input reads as it did. -/
def watchShapesSpec : ChangeSpec := { name := "watchShapes", fn := fun _ => fun
  | [d] => { results := [.lit (.bool true)], args := [d] }
  | _ => none }
def watchShapesRow : OpenClaim := { program := "ytfohdnclpbipeaadoor", sum := "04edb49709c712330b4fa5617903ab4792e093fe3afc8b68bca1b26f14d63dde", func := "hollowtree/hollowtreelaw30.WatchShapes", spec := "watchShapes", unfollowed := true, recurses := true, named := ["internal/strconv.uint64pow10", "math/bits.deBruijn32tab", "math/bits.deBruijn64tab"], plainKeys := false, apart := false, laid := [("math/bits.deBruijn32tab", laid_math_bits_deBruijn32tab), ("math/bits.deBruijn64tab", laid_math_bits_deBruijn64tab), ("internal/strconv.uint64pow10", laid_internal_strconv_uint64pow10)] }
def WatchShapesSaid : Prop := watchShapesRow.holds Tryd.pinned (OpenSpec.ofChange watchShapesSpec)

/-- ITS FALSE NEIGHBOUR: 'it returns false'. Refute it at one input. -/
def watchShapesWrong : ChangeSpec := { name := "watchShapes", fn := fun _ => fun
  | [d] => { results := [.lit (.bool false)], args := [d] }
  | _ => none }
def WatchShapesWrongFalsely : Prop := watchShapesRow.holds Tryd.pinned (OpenSpec.ofChange watchShapesWrong)

/-- 'hollowtreelaw30.WatchRuns': WHATEVER THE INPUT: true; the input reads as it did. -/
def watchRunsSpec : ChangeSpec := { name := "watchRuns", fn := fun _ => fun
  | [d1, d2] => { results := [.lit (.bool true)], args := [d1, d2] }
  | _ => none }
def watchRunsRow : OpenClaim := { program := "ytfohdnclpbipeaadoor", sum := "04edb49709c712330b4fa5617903ab4792e093fe3afc8b68bca1b26f14d63dde", func := "hollowtree/hollowtreelaw30.WatchRuns", spec := "watchRuns", unfollowed := true, recurses := true, named := ["internal/strconv.uint64pow10", "math/bits.deBruijn32tab", "math/bits.deBruijn64tab"], plainKeys := false, apart := false, laid := [("math/bits.deBruijn32tab", laid_math_bits_deBruijn32tab), ("math/bits.deBruijn64tab", laid_math_bits_deBruijn64tab), ("internal/strconv.uint64pow10", laid_internal_strconv_uint64pow10)] }
def WatchRunsSaid : Prop := watchRunsRow.holds Tryd.pinned (OpenSpec.ofChange watchRunsSpec)

/-- ITS FALSE NEIGHBOUR: 'it returns false'. Refute it at one input. -/
def watchRunsWrong : ChangeSpec := { name := "watchRuns", fn := fun _ => fun
  | [d1, d2] => { results := [.lit (.bool false)], args := [d1, d2] }
  | _ => none }
def WatchRunsWrongFalsely : Prop := watchRunsRow.holds Tryd.pinned (OpenSpec.ofChange watchRunsWrong)

/-- 'hollowtreelaw30.WatchSums': WHATEVER THE INPUT: true; the input reads as it did. -/
def watchSumsSpec : ChangeSpec := { name := "watchSums", fn := fun _ => fun
  | [d] => { results := [.lit (.bool true)], args := [d] }
  | _ => none }
def watchSumsRow : OpenClaim := { program := "ytfohdnclpbipeaadoor", sum := "04edb49709c712330b4fa5617903ab4792e093fe3afc8b68bca1b26f14d63dde", func := "hollowtree/hollowtreelaw30.WatchSums", spec := "watchSums", unfollowed := true, recurses := true, named := ["internal/strconv.uint64pow10", "math/bits.deBruijn32tab", "math/bits.deBruijn64tab"], plainKeys := false, apart := false, laid := [("math/bits.deBruijn32tab", laid_math_bits_deBruijn32tab), ("math/bits.deBruijn64tab", laid_math_bits_deBruijn64tab), ("internal/strconv.uint64pow10", laid_internal_strconv_uint64pow10)] }
def WatchSumsSaid : Prop := watchSumsRow.holds Tryd.pinned (OpenSpec.ofChange watchSumsSpec)

/-- ITS FALSE NEIGHBOUR: 'it returns false'. Refute it at one input. -/
def watchSumsWrong : ChangeSpec := { name := "watchSums", fn := fun _ => fun
  | [d] => { results := [.lit (.bool false)], args := [d] }
  | _ => none }
def WatchSumsWrongFalsely : Prop := watchSumsRow.holds Tryd.pinned (OpenSpec.ofChange watchSumsWrong)

/-- 'hollowtreelaw30.WatchTakes': WHATEVER THE INPUT: true; the input reads as it did. -/
def watchTakesSpec : ChangeSpec := { name := "watchTakes", fn := fun _ => fun
  | [d1, d2] => { results := [.lit (.bool true)], args := [d1, d2] }
  | _ => none }
def watchTakesRow : OpenClaim := { program := "ytfohdnclpbipeaadoor", sum := "04edb49709c712330b4fa5617903ab4792e093fe3afc8b68bca1b26f14d63dde", func := "hollowtree/hollowtreelaw30.WatchTakes", spec := "watchTakes", unfollowed := true, recurses := true, named := ["internal/strconv.uint64pow10", "math/bits.deBruijn32tab", "math/bits.deBruijn64tab"], plainKeys := false, apart := false, laid := [("math/bits.deBruijn32tab", laid_math_bits_deBruijn32tab), ("math/bits.deBruijn64tab", laid_math_bits_deBruijn64tab), ("internal/strconv.uint64pow10", laid_internal_strconv_uint64pow10)] }
def WatchTakesSaid : Prop := watchTakesRow.holds Tryd.pinned (OpenSpec.ofChange watchTakesSpec)

/-- ITS FALSE NEIGHBOUR: 'it returns false'. Refute it at one input. -/
def watchTakesWrong : ChangeSpec := { name := "watchTakes", fn := fun _ => fun
  | [d1, d2] => { results := [.lit (.bool false)], args := [d1, d2] }
  | _ => none }
def WatchTakesWrongFalsely : Prop := watchTakesRow.holds Tryd.pinned (OpenSpec.ofChange watchTakesWrong)

/-- 'hollowtreelaw30.WatchSeals': WHATEVER THE INPUT: true; the input reads as it did. -/
def watchSealsSpec : ChangeSpec := { name := "watchSeals", fn := fun _ => fun
  | [d1, d2, d3] => { results := [.lit (.bool true)], args := [d1, d2, d3] }
  | _ => none }
def watchSealsRow : OpenClaim := { program := "ytfohdnclpbipeaadoor", sum := "04edb49709c712330b4fa5617903ab4792e093fe3afc8b68bca1b26f14d63dde", func := "hollowtree/hollowtreelaw30.WatchSeals", spec := "watchSeals", unfollowed := true, recurses := true, named := ["internal/strconv.uint64pow10", "math/bits.deBruijn32tab", "math/bits.deBruijn64tab"], plainKeys := false, apart := false, laid := [("math/bits.deBruijn32tab", laid_math_bits_deBruijn32tab), ("math/bits.deBruijn64tab", laid_math_bits_deBruijn64tab), ("internal/strconv.uint64pow10", laid_internal_strconv_uint64pow10)] }
def WatchSealsSaid : Prop := watchSealsRow.holds Tryd.pinned (OpenSpec.ofChange watchSealsSpec)

/-- ITS FALSE NEIGHBOUR: 'it returns false'. Refute it at one input. -/
def watchSealsWrong : ChangeSpec := { name := "watchSeals", fn := fun _ => fun
  | [d1, d2, d3] => { results := [.lit (.bool false)], args := [d1, d2, d3] }
  | _ => none }
def WatchSealsWrongFalsely : Prop := watchSealsRow.holds Tryd.pinned (OpenSpec.ofChange watchSealsWrong)

/-- 'hollowtreelaw30.WatchCovers': WHATEVER THE INPUT: true; the input reads as it did. -/
def watchCoversSpec : ChangeSpec := { name := "watchCovers", fn := fun _ => fun
  | [d1, d2, d3] => { results := [.lit (.bool true)], args := [d1, d2, d3] }
  | _ => none }
def watchCoversRow : OpenClaim := { program := "ytfohdnclpbipeaadoor", sum := "04edb49709c712330b4fa5617903ab4792e093fe3afc8b68bca1b26f14d63dde", func := "hollowtree/hollowtreelaw30.WatchCovers", spec := "watchCovers", unfollowed := true, recurses := true, named := ["internal/strconv.uint64pow10", "math/bits.deBruijn32tab", "math/bits.deBruijn64tab"], plainKeys := false, apart := false, laid := [("math/bits.deBruijn32tab", laid_math_bits_deBruijn32tab), ("math/bits.deBruijn64tab", laid_math_bits_deBruijn64tab), ("internal/strconv.uint64pow10", laid_internal_strconv_uint64pow10)] }
def WatchCoversSaid : Prop := watchCoversRow.holds Tryd.pinned (OpenSpec.ofChange watchCoversSpec)

/-- ITS FALSE NEIGHBOUR: 'it returns false'. Refute it at one input. -/
def watchCoversWrong : ChangeSpec := { name := "watchCovers", fn := fun _ => fun
  | [d1, d2, d3] => { results := [.lit (.bool false)], args := [d1, d2, d3] }
  | _ => none }
def WatchCoversWrongFalsely : Prop := watchCoversRow.holds Tryd.pinned (OpenSpec.ofChange watchCoversWrong)

/-- 'hollowtreelaw30.WatchBursts': WHATEVER THE INPUT: true; the input reads as it did. -/
def watchBurstsSpec : ChangeSpec := { name := "watchBursts", fn := fun _ => fun
  | [d1, d2, d3] => { results := [.lit (.bool true)], args := [d1, d2, d3] }
  | _ => none }
def watchBurstsRow : OpenClaim := { program := "ytfohdnclpbipeaadoor", sum := "04edb49709c712330b4fa5617903ab4792e093fe3afc8b68bca1b26f14d63dde", func := "hollowtree/hollowtreelaw30.WatchBursts", spec := "watchBursts", unfollowed := true, recurses := true, named := ["internal/strconv.uint64pow10", "math/bits.deBruijn32tab", "math/bits.deBruijn64tab"], plainKeys := false, apart := false, laid := [("math/bits.deBruijn32tab", laid_math_bits_deBruijn32tab), ("math/bits.deBruijn64tab", laid_math_bits_deBruijn64tab), ("internal/strconv.uint64pow10", laid_internal_strconv_uint64pow10)] }
def WatchBurstsSaid : Prop := watchBurstsRow.holds Tryd.pinned (OpenSpec.ofChange watchBurstsSpec)

/-- ITS FALSE NEIGHBOUR: 'it returns false'. Refute it at one input. -/
def watchBurstsWrong : ChangeSpec := { name := "watchBursts", fn := fun _ => fun
  | [d1, d2, d3] => { results := [.lit (.bool false)], args := [d1, d2, d3] }
  | _ => none }
def WatchBurstsWrongFalsely : Prop := watchBurstsRow.holds Tryd.pinned (OpenSpec.ofChange watchBurstsWrong)

/-- 'hollowtreelaw30.WatchTells': WHATEVER THE INPUT: true; the input reads as it did. -/
def watchTellsSpec : ChangeSpec := { name := "watchTells", fn := fun _ => fun
  | [d1, d2] => { results := [.lit (.bool true)], args := [d1, d2] }
  | _ => none }
def watchTellsRow : OpenClaim := { program := "ytfohdnclpbipeaadoor", sum := "04edb49709c712330b4fa5617903ab4792e093fe3afc8b68bca1b26f14d63dde", func := "hollowtree/hollowtreelaw30.WatchTells", spec := "watchTells", inPlace := ["internal/bytealg.CountString", "internal/bytealg.IndexByteString", "internal/bytealg.IndexString"], unfollowed := true, recurses := true, named := ["internal/strconv.uint64pow10", "math/bits.deBruijn32tab", "math/bits.deBruijn64tab", "internal/bytealg.MaxLen"], plainKeys := false, apart := false, laid := [("math/bits.deBruijn32tab", laid_math_bits_deBruijn32tab), ("math/bits.deBruijn64tab", laid_math_bits_deBruijn64tab), ("internal/strconv.uint64pow10", laid_internal_strconv_uint64pow10)] }
def WatchTellsSaid : Prop := watchTellsRow.holds Tryd.pinned (OpenSpec.ofChange watchTellsSpec)

/-- ITS FALSE NEIGHBOUR: 'it returns false'. Refute it at one input. -/
def watchTellsWrong : ChangeSpec := { name := "watchTells", fn := fun _ => fun
  | [d1, d2] => { results := [.lit (.bool false)], args := [d1, d2] }
  | _ => none }
def WatchTellsWrongFalsely : Prop := watchTellsRow.holds Tryd.pinned (OpenSpec.ofChange watchTellsWrong)

/- THE SECOND FORM. 'bulk': how many values and letters a reading holds, each counted each time it is reached (what is shared counts as often as it is met; a slice's spare places count too). A statement '..UptoSaid' is the law's where the arguments, and the package variables that the reading takes, are together of bulk at most 1048576: NARROWER than '..Said'. Prove '..Said' where nothing that the law and all that it calls make is longer than what came in: it says more and counts as full. Else prove '..UptoSaid'. A law counts once. -/
mutual
def uptoBulk {H : Type} : DataW H → Nat
  | .lit (.string bytes) => bytes.length + 1
  | .lit _ => 1
  | .nil => 1
  | .ptr d => uptoBulk d + 1
  | .slice elems spare => uptoBulkAll elems + uptoBulkAll spare + 1
  | .agg parts => uptoBulkAll parts + 1
  | .iface _ d => uptoBulk d + 1
  | .map entries => uptoBulkEntries entries + 1
  | .held _ => 1
def uptoBulkAll {H : Type} : List (DataW H) → Nat
  | [] => 0
  | d :: r => uptoBulk d + uptoBulkAll r
def uptoBulkEntries {H : Type} : List (Lit × DataW H) → Nat
  | [] => 0
  | x :: r => uptoBulkEntry x + uptoBulkEntries r
def uptoBulkEntry {H : Type} : Lit × DataW H → Nat
  | (.string bytes, d) => bytes.length + uptoBulk d + 1
  | (_, d) => uptoBulk d + 1
 end
def uptoSmall : (H : Type) → List (DataW H) → Bool := fun _ ds => decide (uptoBulkAll ds ≤ 1048576)
def OpenSpec.upto (s : _root_.Go.ChangeSpec) : _root_.Go.OpenSpec := { _root_.Go.OpenSpec.ofChange s with cond := some uptoSmall }

/-- 'hollowtreelaw30.WatchShapes', WHERE WHAT IT READS IS OF BULK AT MOST 1048576: true; the input reads as it did. -/
def watchShapesUptoRow : OpenClaim := { program := "ytfohdnclpbipeaadoor", sum := "04edb49709c712330b4fa5617903ab4792e093fe3afc8b68bca1b26f14d63dde", func := "hollowtree/hollowtreelaw30.WatchShapes", spec := "watchShapes", unfollowed := true, recurses := true, named := ["internal/strconv.uint64pow10", "math/bits.deBruijn32tab", "math/bits.deBruijn64tab"], plainKeys := false, apart := false, laid := [("math/bits.deBruijn32tab", laid_math_bits_deBruijn32tab), ("math/bits.deBruijn64tab", laid_math_bits_deBruijn64tab), ("internal/strconv.uint64pow10", laid_internal_strconv_uint64pow10)], narrowed := true }
def WatchShapesUptoSaid : Prop := watchShapesUptoRow.holds Tryd.pinned (OpenSpec.upto watchShapesSpec)

/-- 'hollowtreelaw30.WatchRuns', WHERE WHAT IT READS IS OF BULK AT MOST 1048576: true; the input reads as it did. -/
def watchRunsUptoRow : OpenClaim := { program := "ytfohdnclpbipeaadoor", sum := "04edb49709c712330b4fa5617903ab4792e093fe3afc8b68bca1b26f14d63dde", func := "hollowtree/hollowtreelaw30.WatchRuns", spec := "watchRuns", unfollowed := true, recurses := true, named := ["internal/strconv.uint64pow10", "math/bits.deBruijn32tab", "math/bits.deBruijn64tab"], plainKeys := false, apart := false, laid := [("math/bits.deBruijn32tab", laid_math_bits_deBruijn32tab), ("math/bits.deBruijn64tab", laid_math_bits_deBruijn64tab), ("internal/strconv.uint64pow10", laid_internal_strconv_uint64pow10)], narrowed := true }
def WatchRunsUptoSaid : Prop := watchRunsUptoRow.holds Tryd.pinned (OpenSpec.upto watchRunsSpec)

/-- 'hollowtreelaw30.WatchSums', WHERE WHAT IT READS IS OF BULK AT MOST 1048576: true; the input reads as it did. -/
def watchSumsUptoRow : OpenClaim := { program := "ytfohdnclpbipeaadoor", sum := "04edb49709c712330b4fa5617903ab4792e093fe3afc8b68bca1b26f14d63dde", func := "hollowtree/hollowtreelaw30.WatchSums", spec := "watchSums", unfollowed := true, recurses := true, named := ["internal/strconv.uint64pow10", "math/bits.deBruijn32tab", "math/bits.deBruijn64tab"], plainKeys := false, apart := false, laid := [("math/bits.deBruijn32tab", laid_math_bits_deBruijn32tab), ("math/bits.deBruijn64tab", laid_math_bits_deBruijn64tab), ("internal/strconv.uint64pow10", laid_internal_strconv_uint64pow10)], narrowed := true }
def WatchSumsUptoSaid : Prop := watchSumsUptoRow.holds Tryd.pinned (OpenSpec.upto watchSumsSpec)

/-- 'hollowtreelaw30.WatchTakes', WHERE WHAT IT READS IS OF BULK AT MOST 1048576: true; the input reads as it did. -/
def watchTakesUptoRow : OpenClaim := { program := "ytfohdnclpbipeaadoor", sum := "04edb49709c712330b4fa5617903ab4792e093fe3afc8b68bca1b26f14d63dde", func := "hollowtree/hollowtreelaw30.WatchTakes", spec := "watchTakes", unfollowed := true, recurses := true, named := ["internal/strconv.uint64pow10", "math/bits.deBruijn32tab", "math/bits.deBruijn64tab"], plainKeys := false, apart := false, laid := [("math/bits.deBruijn32tab", laid_math_bits_deBruijn32tab), ("math/bits.deBruijn64tab", laid_math_bits_deBruijn64tab), ("internal/strconv.uint64pow10", laid_internal_strconv_uint64pow10)], narrowed := true }
def WatchTakesUptoSaid : Prop := watchTakesUptoRow.holds Tryd.pinned (OpenSpec.upto watchTakesSpec)

/-- 'hollowtreelaw30.WatchSeals', WHERE WHAT IT READS IS OF BULK AT MOST 1048576: true; the input reads as it did. -/
def watchSealsUptoRow : OpenClaim := { program := "ytfohdnclpbipeaadoor", sum := "04edb49709c712330b4fa5617903ab4792e093fe3afc8b68bca1b26f14d63dde", func := "hollowtree/hollowtreelaw30.WatchSeals", spec := "watchSeals", unfollowed := true, recurses := true, named := ["internal/strconv.uint64pow10", "math/bits.deBruijn32tab", "math/bits.deBruijn64tab"], plainKeys := false, apart := false, laid := [("math/bits.deBruijn32tab", laid_math_bits_deBruijn32tab), ("math/bits.deBruijn64tab", laid_math_bits_deBruijn64tab), ("internal/strconv.uint64pow10", laid_internal_strconv_uint64pow10)], narrowed := true }
def WatchSealsUptoSaid : Prop := watchSealsUptoRow.holds Tryd.pinned (OpenSpec.upto watchSealsSpec)

/-- 'hollowtreelaw30.WatchCovers', WHERE WHAT IT READS IS OF BULK AT MOST 1048576: true; the input reads as it did. -/
def watchCoversUptoRow : OpenClaim := { program := "ytfohdnclpbipeaadoor", sum := "04edb49709c712330b4fa5617903ab4792e093fe3afc8b68bca1b26f14d63dde", func := "hollowtree/hollowtreelaw30.WatchCovers", spec := "watchCovers", unfollowed := true, recurses := true, named := ["internal/strconv.uint64pow10", "math/bits.deBruijn32tab", "math/bits.deBruijn64tab"], plainKeys := false, apart := false, laid := [("math/bits.deBruijn32tab", laid_math_bits_deBruijn32tab), ("math/bits.deBruijn64tab", laid_math_bits_deBruijn64tab), ("internal/strconv.uint64pow10", laid_internal_strconv_uint64pow10)], narrowed := true }
def WatchCoversUptoSaid : Prop := watchCoversUptoRow.holds Tryd.pinned (OpenSpec.upto watchCoversSpec)

/-- 'hollowtreelaw30.WatchBursts', WHERE WHAT IT READS IS OF BULK AT MOST 1048576: true; the input reads as it did. -/
def watchBurstsUptoRow : OpenClaim := { program := "ytfohdnclpbipeaadoor", sum := "04edb49709c712330b4fa5617903ab4792e093fe3afc8b68bca1b26f14d63dde", func := "hollowtree/hollowtreelaw30.WatchBursts", spec := "watchBursts", unfollowed := true, recurses := true, named := ["internal/strconv.uint64pow10", "math/bits.deBruijn32tab", "math/bits.deBruijn64tab"], plainKeys := false, apart := false, laid := [("math/bits.deBruijn32tab", laid_math_bits_deBruijn32tab), ("math/bits.deBruijn64tab", laid_math_bits_deBruijn64tab), ("internal/strconv.uint64pow10", laid_internal_strconv_uint64pow10)], narrowed := true }
def WatchBurstsUptoSaid : Prop := watchBurstsUptoRow.holds Tryd.pinned (OpenSpec.upto watchBurstsSpec)

/-- 'hollowtreelaw30.WatchTells', WHERE WHAT IT READS IS OF BULK AT MOST 1048576: true; the input reads as it did. -/
def watchTellsUptoRow : OpenClaim := { program := "ytfohdnclpbipeaadoor", sum := "04edb49709c712330b4fa5617903ab4792e093fe3afc8b68bca1b26f14d63dde", func := "hollowtree/hollowtreelaw30.WatchTells", spec := "watchTells", inPlace := ["internal/bytealg.CountString", "internal/bytealg.IndexByteString", "internal/bytealg.IndexString"], unfollowed := true, recurses := true, named := ["internal/strconv.uint64pow10", "math/bits.deBruijn32tab", "math/bits.deBruijn64tab", "internal/bytealg.MaxLen"], plainKeys := false, apart := false, laid := [("math/bits.deBruijn32tab", laid_math_bits_deBruijn32tab), ("math/bits.deBruijn64tab", laid_math_bits_deBruijn64tab), ("internal/strconv.uint64pow10", laid_internal_strconv_uint64pow10)], narrowed := true }
def WatchTellsUptoSaid : Prop := watchTellsUptoRow.holds Tryd.pinned (OpenSpec.upto watchTellsSpec)

end Rows
end Go.Proofs.YtfohdnclpbipeaaDoor
