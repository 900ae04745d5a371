import Derived.Shelf.Strconv.Itoa1
import Derived.Shelf.Strconv.Itoa2
import Derived.Test.YtfohdnclpbipeaaDoorJoin2
namespace Go.Proofs.YtfohdnclpbipeaaDoor
section
open Go Go.Shelf
def lays283_ren : Go.Shelf.Ren := ⟨fun | 283 => 83 | n => n, fun | 3 => 3 | 9 => 9 | 4 => 4 | n => n, fun | n => n⟩
theorem lays283 : Go.Proofs.Lays.n283 prog lays283_ren := {
  mixed := by kernel_rfl
  f283 := Go.Proofs.Tryd.func83.trans (congrArg some (by kernel_rfl))
  t3 := Go.Proofs.Tryd.underlying3
  a3 := Go.Proofs.Tryd.isAgg3
  z3 := Go.Proofs.Tryd.sizeOf3
  v3 := Go.Proofs.Tryd.zeroValue3
  t4 := Go.Proofs.Tryd.underlying4
  a4 := Go.Proofs.Tryd.isAgg4
  z4 := Go.Proofs.Tryd.sizeOf4
  v4 := Go.Proofs.Tryd.zeroValue4
  t9 := Go.Proofs.Tryd.underlying9
  a9 := Go.Proofs.Tryd.isAgg9
  z9 := Go.Proofs.Tryd.sizeOf9
  v9 := Go.Proofs.Tryd.zeroValue9 }
def lays284_ren : Go.Shelf.Ren := ⟨fun | 284 => 84 | 129 => 96 | 317 => 117 | 318 => 118 | n => n, fun | 53 => 35 | 3 => 3 | 212 => 155 | 0 => 0 | 4 => 4 | 46 => 43 | 5 => 5 | 9 => 9 | n => n, fun | 17 => 1 | n => n⟩
theorem lays284 : Go.Proofs.LaysM.n284 prog lays284_ren := {
  mixed := by kernel_rfl
  f129 := Go.Proofs.Tryd.func96.trans (congrArg some (by kernel_rfl))
  f284 := Go.Proofs.Tryd.func84.trans (congrArg some (by kernel_rfl))
  f317 := Go.Proofs.Tryd.func117.trans (congrArg some (by kernel_rfl))
  f318 := Go.Proofs.Tryd.func118.trans (congrArg some (by kernel_rfl))
  t0 := Go.Proofs.Tryd.underlying0
  a0 := Go.Proofs.Tryd.isAgg0
  z0 := Go.Proofs.Tryd.sizeOf0
  v0 := Go.Proofs.Tryd.zeroValue0
  t3 := Go.Proofs.Tryd.underlying3
  a3 := Go.Proofs.Tryd.isAgg3
  z3 := Go.Proofs.Tryd.sizeOf3
  v3 := Go.Proofs.Tryd.zeroValue3
  t4 := Go.Proofs.Tryd.underlying4
  a4 := Go.Proofs.Tryd.isAgg4
  z4 := Go.Proofs.Tryd.sizeOf4
  v4 := Go.Proofs.Tryd.zeroValue4
  t5 := Go.Proofs.Tryd.underlying5
  a5 := Go.Proofs.Tryd.isAgg5
  z5 := Go.Proofs.Tryd.sizeOf5
  v5 := Go.Proofs.Tryd.zeroValue5
  t9 := Go.Proofs.Tryd.underlying9
  a9 := Go.Proofs.Tryd.isAgg9
  z9 := Go.Proofs.Tryd.sizeOf9
  v9 := Go.Proofs.Tryd.zeroValue9
  t46 := Go.Proofs.Tryd.underlying43
  a46 := Go.Proofs.Tryd.isAgg43
  z46 := Go.Proofs.Tryd.sizeOf43
  v46 := Go.Proofs.Tryd.zeroValue43
  t53 := Go.Proofs.Tryd.underlying35
  a53 := Go.Proofs.Tryd.isAgg35
  z53 := Go.Proofs.Tryd.sizeOf35
  v53 := Go.Proofs.Tryd.zeroValue35
  t212 := Go.Proofs.Tryd.underlying155
  a212 := Go.Proofs.Tryd.isAgg155
  z212 := Go.Proofs.Tryd.sizeOf155
  v212 := Go.Proofs.Tryd.zeroValue155
  g17 := by kernel_rfl
  i0 := by kernel_rfl
  i3 := by kernel_rfl
  i4 := by kernel_rfl
  i5 := by kernel_rfl
  i9 := by kernel_rfl
  i46 := by kernel_rfl
  i53 := by kernel_rfl
  i212 := by kernel_rfl
  m17 := by kernel_rfl }
def lays285_ren : Go.Shelf.Ren := ⟨fun | 285 => 85 | n => n, fun | 37 => 58 | 53 => 35 | 3 => 3 | 4 => 4 | 51 => 139 | 9 => 9 | 5 => 5 | 0 => 0 | n => n, fun | n => n⟩
theorem lays285 : Go.Proofs.Lays.n285 prog lays285_ren := {
  mixed := by kernel_rfl
  f285 := Go.Proofs.Tryd.func85.trans (congrArg some (by kernel_rfl))
  t0 := Go.Proofs.Tryd.underlying0
  a0 := Go.Proofs.Tryd.isAgg0
  z0 := Go.Proofs.Tryd.sizeOf0
  v0 := Go.Proofs.Tryd.zeroValue0
  t3 := Go.Proofs.Tryd.underlying3
  a3 := Go.Proofs.Tryd.isAgg3
  z3 := Go.Proofs.Tryd.sizeOf3
  v3 := Go.Proofs.Tryd.zeroValue3
  t4 := Go.Proofs.Tryd.underlying4
  a4 := Go.Proofs.Tryd.isAgg4
  z4 := Go.Proofs.Tryd.sizeOf4
  v4 := Go.Proofs.Tryd.zeroValue4
  t5 := Go.Proofs.Tryd.underlying5
  a5 := Go.Proofs.Tryd.isAgg5
  z5 := Go.Proofs.Tryd.sizeOf5
  v5 := Go.Proofs.Tryd.zeroValue5
  t9 := Go.Proofs.Tryd.underlying9
  a9 := Go.Proofs.Tryd.isAgg9
  z9 := Go.Proofs.Tryd.sizeOf9
  v9 := Go.Proofs.Tryd.zeroValue9
  t37 := Go.Proofs.Tryd.underlying58
  a37 := Go.Proofs.Tryd.isAgg58
  z37 := Go.Proofs.Tryd.sizeOf58
  v37 := Go.Proofs.Tryd.zeroValue58
  t51 := Go.Proofs.Tryd.underlying139
  a51 := Go.Proofs.Tryd.isAgg139
  z51 := Go.Proofs.Tryd.sizeOf139
  v51 := Go.Proofs.Tryd.zeroValue139
  t53 := Go.Proofs.Tryd.underlying35
  a53 := Go.Proofs.Tryd.isAgg35
  z53 := Go.Proofs.Tryd.sizeOf35
  v53 := Go.Proofs.Tryd.zeroValue35 }
end
end Go.Proofs.YtfohdnclpbipeaaDoor
