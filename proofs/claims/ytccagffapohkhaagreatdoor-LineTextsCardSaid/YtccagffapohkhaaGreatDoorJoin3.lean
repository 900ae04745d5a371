import Derived.Shelf.Strings.OnBuilder
import Derived.Shelf.Strconv.AtoiAll
import Derived.Shelf.Strconv.Itoa3
import Derived.Lib.ItoaMem
import Derived.Lib.AtoiTie
import Derived.Lib.SmallJoins
import Derived.Lib.Bytealg
import Derived.Test.YtccagffapohkhaaGreatDoorJoin1
import Derived.Test.YtccagffapohkhaaGreatDoorJoin2
namespace Go.Proofs.YtccagffapohkhaaGreatDoor
section
open Go Go.Shelf
def lays156_ren : Go.Shelf.Ren := ⟨fun | 156 => 75 | 165 => 90 | 166 => 91 | 169 => 55 | 240 => 78 | 241 => 108 | 276 => 92 | 277 => 124 | n => n, fun | 31 => 34 | 9 => 9 | 3 => 3 | 4 => 4 | 0 => 0 | 20 => 20 | 72 => 95 | 76 => 121 | 70 => 93 | 37 => 83 | 75 => 97 | 127 => 114 | 164 => 124 | 5 => 5 | 80 => 73 | n => n, fun | n => n⟩
theorem lays156 : Go.Proofs.Lays.n156 prog lays156_ren := {
  mixed := by kernel_rfl
  f156 := Go.Proofs.Tryz.func75.trans (congrArg some (by kernel_rfl))
  f165 := Go.Proofs.Tryz.func90.trans (congrArg some (by kernel_rfl))
  f166 := Go.Proofs.Tryz.func91.trans (congrArg some (by kernel_rfl))
  f169 := Go.Proofs.Tryz.func55.trans (congrArg some (by kernel_rfl))
  f240 := Go.Proofs.Tryz.func78.trans (congrArg some (by kernel_rfl))
  f241 := Go.Proofs.Tryz.func108.trans (congrArg some (by kernel_rfl))
  f276 := Go.Proofs.Tryz.func92.trans (congrArg some (by kernel_rfl))
  f277 := Go.Proofs.Tryz.func124.trans (congrArg some (by kernel_rfl))
  t0 := Go.Proofs.Tryz.underlying0
  a0 := Go.Proofs.Tryz.isAgg0
  z0 := Go.Proofs.Tryz.sizeOf0
  v0 := Go.Proofs.Tryz.zeroValue0
  t3 := Go.Proofs.Tryz.underlying3
  a3 := Go.Proofs.Tryz.isAgg3
  z3 := Go.Proofs.Tryz.sizeOf3
  v3 := Go.Proofs.Tryz.zeroValue3
  t4 := Go.Proofs.Tryz.underlying4
  a4 := Go.Proofs.Tryz.isAgg4
  z4 := Go.Proofs.Tryz.sizeOf4
  v4 := Go.Proofs.Tryz.zeroValue4
  t9 := Go.Proofs.Tryz.underlying9
  a9 := Go.Proofs.Tryz.isAgg9
  z9 := Go.Proofs.Tryz.sizeOf9
  v9 := Go.Proofs.Tryz.zeroValue9
  t20 := Go.Proofs.Tryz.underlying20
  a20 := Go.Proofs.Tryz.isAgg20
  z20 := Go.Proofs.Tryz.sizeOf20
  v20 := Go.Proofs.Tryz.zeroValue20
  t31 := Go.Proofs.Tryz.underlying34
  a31 := Go.Proofs.Tryz.isAgg34
  z31 := Go.Proofs.Tryz.sizeOf34
  v31 := Go.Proofs.Tryz.zeroValue34
  t37 := Go.Proofs.Tryz.underlying83
  a37 := Go.Proofs.Tryz.isAgg83
  z37 := Go.Proofs.Tryz.sizeOf83
  v37 := Go.Proofs.Tryz.zeroValue83
  t70 := Go.Proofs.Tryz.underlying93
  a70 := Go.Proofs.Tryz.isAgg93
  z70 := Go.Proofs.Tryz.sizeOf93
  v70 := Go.Proofs.Tryz.zeroValue93
  t72 := Go.Proofs.Tryz.underlying95
  a72 := Go.Proofs.Tryz.isAgg95
  z72 := Go.Proofs.Tryz.sizeOf95
  v72 := Go.Proofs.Tryz.zeroValue95
  t75 := Go.Proofs.Tryz.underlying97
  a75 := Go.Proofs.Tryz.isAgg97
  z75 := Go.Proofs.Tryz.sizeOf97
  v75 := Go.Proofs.Tryz.zeroValue97
  t76 := Go.Proofs.Tryz.underlying121
  a76 := Go.Proofs.Tryz.isAgg121
  z76 := Go.Proofs.Tryz.sizeOf121
  v76 := Go.Proofs.Tryz.zeroValue121
  t127 := Go.Proofs.Tryz.underlying114
  a127 := Go.Proofs.Tryz.isAgg114
  z127 := Go.Proofs.Tryz.sizeOf114
  v127 := Go.Proofs.Tryz.zeroValue114
  t164 := Go.Proofs.Tryz.underlying124
  a164 := Go.Proofs.Tryz.isAgg124
  z164 := Go.Proofs.Tryz.sizeOf124
  v164 := Go.Proofs.Tryz.zeroValue124 }
end
section
open Go Go.Shelf
def laysC172_ren : Go.Shelf.Ren := ⟨fun | 172 => 87 | 244 => 105 | 245 => 106 | 247 => 115 | 279 => 116 | 280 => 117 | 281 => 118 | 282 => 119 | 287 => 126 | 316 => 127 | 171 => 74 | 205 => 128 | 321 => 134 | 322 => 135 | 243 => 89 | 246 => 107 | 283 => 120 | 284 => 121 | 285 => 122 | 286 => 123 | 129 => 130 | 317 => 129 | 318 => 131 | 319 => 132 | 320 => 133 | 337 => 136 | 338 => 137 | n => n, fun | 9 => 9 | 3 => 3 | 75 => 97 | 76 => 121 | 4 => 4 | 5 => 5 | 167 => 138 | 37 => 83 | 0 => 0 | 85 => 139 | 2 => 2 | 168 => 141 | 53 => 145 | 175 => 151 | 46 => 107 | 210 => 154 | 127 => 114 | 145 => 168 | 143 => 166 | 21 => 21 | 171 => 144 | 173 => 148 | 212 => 157 | 51 => 135 | 20 => 20 | 213 => 158 | 232 => 24 | 233 => 170 | 80 => 73 | n => n, fun | 15 => 1 | 16 => 2 | 17 => 3 | 18 => 6 | 19 => 7 | n => n⟩
theorem laysC172 : Go.Proofs.LaysC.n172 prog laysC172_ren := {
  mixed := by kernel_rfl
  f129 := Go.Proofs.Tryz.func130.trans (congrArg some (by kernel_rfl))
  f171 := Go.Proofs.Tryz.func74.trans (congrArg some (by kernel_rfl))
  f172 := Go.Proofs.Tryz.func87.trans (congrArg some (by kernel_rfl))
  f205 := Go.Proofs.Tryz.func128.trans (congrArg some (by kernel_rfl))
  f243 := Go.Proofs.Tryz.func89.trans (congrArg some (by kernel_rfl))
  f244 := Go.Proofs.Tryz.func105.trans (congrArg some (by kernel_rfl))
  f245 := Go.Proofs.Tryz.func106.trans (congrArg some (by kernel_rfl))
  f246 := Go.Proofs.Tryz.func107.trans (congrArg some (by kernel_rfl))
  f247 := Go.Proofs.Tryz.func115.trans (congrArg some (by kernel_rfl))
  f279 := Go.Proofs.Tryz.func116.trans (congrArg some (by kernel_rfl))
  f280 := Go.Proofs.Tryz.func117.trans (congrArg some (by kernel_rfl))
  f281 := Go.Proofs.Tryz.func118.trans (congrArg some (by kernel_rfl))
  f282 := Go.Proofs.Tryz.func119.trans (congrArg some (by kernel_rfl))
  f283 := Go.Proofs.Tryz.func120.trans (congrArg some (by kernel_rfl))
  f284 := Go.Proofs.Tryz.func121.trans (congrArg some (by kernel_rfl))
  f285 := Go.Proofs.Tryz.func122.trans (congrArg some (by kernel_rfl))
  f286 := Go.Proofs.Tryz.func123.trans (congrArg some (by kernel_rfl))
  f287 := Go.Proofs.Tryz.func126.trans (congrArg some (by kernel_rfl))
  f316 := Go.Proofs.Tryz.func127.trans (congrArg some (by kernel_rfl))
  f317 := Go.Proofs.Tryz.func129.trans (congrArg some (by kernel_rfl))
  f318 := Go.Proofs.Tryz.func131.trans (congrArg some (by kernel_rfl))
  f319 := Go.Proofs.Tryz.func132.trans (congrArg some (by kernel_rfl))
  f320 := Go.Proofs.Tryz.func133.trans (congrArg some (by kernel_rfl))
  f321 := Go.Proofs.Tryz.func134.trans (congrArg some (by kernel_rfl))
  f322 := Go.Proofs.Tryz.func135.trans (congrArg some (by kernel_rfl))
  f337 := Go.Proofs.Tryz.func136.trans (congrArg some (by kernel_rfl))
  f338 := Go.Proofs.Tryz.func137.trans (congrArg some (by kernel_rfl))
  t0 := Go.Proofs.Tryz.underlying0
  a0 := Go.Proofs.Tryz.isAgg0
  z0 := Go.Proofs.Tryz.sizeOf0
  v0 := Go.Proofs.Tryz.zeroValue0
  t2 := Go.Proofs.Tryz.underlying2
  a2 := Go.Proofs.Tryz.isAgg2
  z2 := Go.Proofs.Tryz.sizeOf2
  v2 := Go.Proofs.Tryz.zeroValue2
  t3 := Go.Proofs.Tryz.underlying3
  a3 := Go.Proofs.Tryz.isAgg3
  z3 := Go.Proofs.Tryz.sizeOf3
  v3 := Go.Proofs.Tryz.zeroValue3
  t4 := Go.Proofs.Tryz.underlying4
  a4 := Go.Proofs.Tryz.isAgg4
  z4 := Go.Proofs.Tryz.sizeOf4
  v4 := Go.Proofs.Tryz.zeroValue4
  t5 := Go.Proofs.Tryz.underlying5
  a5 := Go.Proofs.Tryz.isAgg5
  z5 := Go.Proofs.Tryz.sizeOf5
  v5 := Go.Proofs.Tryz.zeroValue5
  t9 := Go.Proofs.Tryz.underlying9
  a9 := Go.Proofs.Tryz.isAgg9
  z9 := Go.Proofs.Tryz.sizeOf9
  v9 := Go.Proofs.Tryz.zeroValue9
  t20 := Go.Proofs.Tryz.underlying20
  a20 := Go.Proofs.Tryz.isAgg20
  z20 := Go.Proofs.Tryz.sizeOf20
  v20 := Go.Proofs.Tryz.zeroValue20
  t21 := Go.Proofs.Tryz.underlying21
  a21 := Go.Proofs.Tryz.isAgg21
  z21 := Go.Proofs.Tryz.sizeOf21
  v21 := Go.Proofs.Tryz.zeroValue21
  t37 := Go.Proofs.Tryz.underlying83
  a37 := Go.Proofs.Tryz.isAgg83
  z37 := Go.Proofs.Tryz.sizeOf83
  v37 := Go.Proofs.Tryz.zeroValue83
  t46 := Go.Proofs.Tryz.underlying107
  a46 := Go.Proofs.Tryz.isAgg107
  z46 := Go.Proofs.Tryz.sizeOf107
  v46 := Go.Proofs.Tryz.zeroValue107
  t51 := Go.Proofs.Tryz.underlying135
  a51 := Go.Proofs.Tryz.isAgg135
  z51 := Go.Proofs.Tryz.sizeOf135
  v51 := Go.Proofs.Tryz.zeroValue135
  t53 := Go.Proofs.Tryz.underlying145
  a53 := Go.Proofs.Tryz.isAgg145
  z53 := Go.Proofs.Tryz.sizeOf145
  v53 := Go.Proofs.Tryz.zeroValue145
  t75 := Go.Proofs.Tryz.underlying97
  a75 := Go.Proofs.Tryz.isAgg97
  z75 := Go.Proofs.Tryz.sizeOf97
  v75 := Go.Proofs.Tryz.zeroValue97
  t76 := Go.Proofs.Tryz.underlying121
  a76 := Go.Proofs.Tryz.isAgg121
  z76 := Go.Proofs.Tryz.sizeOf121
  v76 := Go.Proofs.Tryz.zeroValue121
  t85 := Go.Proofs.Tryz.underlying139
  a85 := Go.Proofs.Tryz.isAgg139
  z85 := Go.Proofs.Tryz.sizeOf139
  v85 := Go.Proofs.Tryz.zeroValue139
  t127 := Go.Proofs.Tryz.underlying114
  a127 := Go.Proofs.Tryz.isAgg114
  z127 := Go.Proofs.Tryz.sizeOf114
  v127 := Go.Proofs.Tryz.zeroValue114
  t143 := Go.Proofs.Tryz.underlying166
  a143 := Go.Proofs.Tryz.isAgg166
  z143 := Go.Proofs.Tryz.sizeOf166
  v143 := Go.Proofs.Tryz.zeroValue166
  t145 := Go.Proofs.Tryz.underlying168
  a145 := Go.Proofs.Tryz.isAgg168
  z145 := Go.Proofs.Tryz.sizeOf168
  v145 := Go.Proofs.Tryz.zeroValue168
  t167 := Go.Proofs.Tryz.underlying138
  a167 := Go.Proofs.Tryz.isAgg138
  z167 := Go.Proofs.Tryz.sizeOf138
  v167 := Go.Proofs.Tryz.zeroValue138
  t168 := Go.Proofs.Tryz.underlying141
  a168 := Go.Proofs.Tryz.isAgg141
  z168 := Go.Proofs.Tryz.sizeOf141
  v168 := Go.Proofs.Tryz.zeroValue141
  t171 := Go.Proofs.Tryz.underlying144
  a171 := Go.Proofs.Tryz.isAgg144
  z171 := Go.Proofs.Tryz.sizeOf144
  v171 := Go.Proofs.Tryz.zeroValue144
  t173 := Go.Proofs.Tryz.underlying148
  a173 := Go.Proofs.Tryz.isAgg148
  z173 := Go.Proofs.Tryz.sizeOf148
  v173 := Go.Proofs.Tryz.zeroValue148
  t175 := Go.Proofs.Tryz.underlying151
  a175 := Go.Proofs.Tryz.isAgg151
  z175 := Go.Proofs.Tryz.sizeOf151
  v175 := Go.Proofs.Tryz.zeroValue151
  t210 := Go.Proofs.Tryz.underlying154
  a210 := Go.Proofs.Tryz.isAgg154
  z210 := Go.Proofs.Tryz.sizeOf154
  v210 := Go.Proofs.Tryz.zeroValue154
  t212 := Go.Proofs.Tryz.underlying157
  a212 := Go.Proofs.Tryz.isAgg157
  z212 := Go.Proofs.Tryz.sizeOf157
  v212 := Go.Proofs.Tryz.zeroValue157
  t213 := Go.Proofs.Tryz.underlying158
  a213 := Go.Proofs.Tryz.isAgg158
  z213 := Go.Proofs.Tryz.sizeOf158
  t232 := Go.Proofs.Tryz.underlying24
  a232 := Go.Proofs.Tryz.isAgg24
  z232 := Go.Proofs.Tryz.sizeOf24
  v232 := Go.Proofs.Tryz.zeroValue24
  t233 := Go.Proofs.Tryz.underlying170
  a233 := Go.Proofs.Tryz.isAgg170
  z233 := Go.Proofs.Tryz.sizeOf170
  v233 := Go.Proofs.Tryz.zeroValue170
  g15 := by kernel_rfl
  g16 := by kernel_rfl
  g17 := by kernel_rfl
  g18 := by kernel_rfl
  g19 := by kernel_rfl
  t80 := Go.Proofs.Tryz.underlying73
  a80 := Go.Proofs.Tryz.isAgg73
  z80 := Go.Proofs.Tryz.sizeOf73
  v80 := Go.Proofs.Tryz.zeroValue73
  i0 := by kernel_rfl
  i2 := by kernel_rfl
  i3 := by kernel_rfl
  i4 := by kernel_rfl
  i5 := by kernel_rfl
  i9 := by kernel_rfl
  i20 := by kernel_rfl
  i21 := by kernel_rfl
  i37 := by kernel_rfl
  i46 := by kernel_rfl
  i51 := by kernel_rfl
  i53 := by kernel_rfl
  i75 := by kernel_rfl
  i76 := by kernel_rfl
  i80 := by kernel_rfl
  i85 := by kernel_rfl
  i127 := by kernel_rfl
  i143 := by kernel_rfl
  i145 := by kernel_rfl
  i167 := by kernel_rfl
  i168 := by kernel_rfl
  i171 := by kernel_rfl
  i173 := by kernel_rfl
  i175 := by kernel_rfl
  i210 := by kernel_rfl
  i212 := by kernel_rfl
  i232 := by kernel_rfl
  i233 := by kernel_rfl
  m15 := by kernel_rfl
  m16 := by kernel_rfl
  m17 := by kernel_rfl
  m18 := by kernel_rfl
  m19 := by kernel_rfl
  c0 := by kernel_rfl
  c2 := by kernel_rfl
  c3 := by kernel_rfl
  c4 := by kernel_rfl
  c5 := by kernel_rfl
  c9 := by kernel_rfl
  c20 := by kernel_rfl
  c21 := by kernel_rfl
  c37 := by kernel_rfl
  c46 := by kernel_rfl
  c51 := by kernel_rfl
  c53 := by kernel_rfl
  c75 := by kernel_rfl
  c76 := by kernel_rfl
  c80 := by kernel_rfl
  c85 := by kernel_rfl
  c127 := by kernel_rfl
  c143 := by kernel_rfl
  c145 := by kernel_rfl
  c167 := by kernel_rfl
  c168 := by kernel_rfl
  c171 := by kernel_rfl
  c173 := by kernel_rfl
  c175 := by kernel_rfl
  c210 := by kernel_rfl
  c212 := by kernel_rfl
  c213 := by kernel_rfl
  c232 := by kernel_rfl
  c233 := by kernel_rfl }
def laysM171_ren : Go.Shelf.Ren := ⟨fun | 171 => 74 | 243 => 89 | 246 => 107 | 283 => 120 | 284 => 121 | 285 => 122 | 286 => 123 | 129 => 130 | 317 => 129 | 318 => 131 | 319 => 132 | 320 => 133 | 337 => 136 | 338 => 137 | n => n, fun | 3 => 3 | 9 => 9 | 2 => 2 | 4 => 4 | 171 => 144 | 0 => 0 | 53 => 145 | 37 => 83 | 5 => 5 | 173 => 148 | 212 => 157 | 51 => 135 | 20 => 20 | 213 => 158 | 46 => 107 | 232 => 24 | 233 => 170 | n => n, fun | 17 => 3 | 18 => 6 | 19 => 7 | n => n⟩
theorem laysM171 : Go.Proofs.LaysM.n171 prog laysM171_ren := {
  mixed := by kernel_rfl
  f129 := Go.Proofs.Tryz.func130.trans (congrArg some (by kernel_rfl))
  f171 := Go.Proofs.Tryz.func74.trans (congrArg some (by kernel_rfl))
  f243 := Go.Proofs.Tryz.func89.trans (congrArg some (by kernel_rfl))
  f246 := Go.Proofs.Tryz.func107.trans (congrArg some (by kernel_rfl))
  f283 := Go.Proofs.Tryz.func120.trans (congrArg some (by kernel_rfl))
  f284 := Go.Proofs.Tryz.func121.trans (congrArg some (by kernel_rfl))
  f285 := Go.Proofs.Tryz.func122.trans (congrArg some (by kernel_rfl))
  f286 := Go.Proofs.Tryz.func123.trans (congrArg some (by kernel_rfl))
  f317 := Go.Proofs.Tryz.func129.trans (congrArg some (by kernel_rfl))
  f318 := Go.Proofs.Tryz.func131.trans (congrArg some (by kernel_rfl))
  f319 := Go.Proofs.Tryz.func132.trans (congrArg some (by kernel_rfl))
  f320 := Go.Proofs.Tryz.func133.trans (congrArg some (by kernel_rfl))
  f337 := Go.Proofs.Tryz.func136.trans (congrArg some (by kernel_rfl))
  f338 := Go.Proofs.Tryz.func137.trans (congrArg some (by kernel_rfl))
  t0 := Go.Proofs.Tryz.underlying0
  a0 := Go.Proofs.Tryz.isAgg0
  z0 := Go.Proofs.Tryz.sizeOf0
  v0 := Go.Proofs.Tryz.zeroValue0
  t2 := Go.Proofs.Tryz.underlying2
  a2 := Go.Proofs.Tryz.isAgg2
  z2 := Go.Proofs.Tryz.sizeOf2
  v2 := Go.Proofs.Tryz.zeroValue2
  t3 := Go.Proofs.Tryz.underlying3
  a3 := Go.Proofs.Tryz.isAgg3
  z3 := Go.Proofs.Tryz.sizeOf3
  v3 := Go.Proofs.Tryz.zeroValue3
  t4 := Go.Proofs.Tryz.underlying4
  a4 := Go.Proofs.Tryz.isAgg4
  z4 := Go.Proofs.Tryz.sizeOf4
  v4 := Go.Proofs.Tryz.zeroValue4
  t5 := Go.Proofs.Tryz.underlying5
  a5 := Go.Proofs.Tryz.isAgg5
  z5 := Go.Proofs.Tryz.sizeOf5
  v5 := Go.Proofs.Tryz.zeroValue5
  t9 := Go.Proofs.Tryz.underlying9
  a9 := Go.Proofs.Tryz.isAgg9
  z9 := Go.Proofs.Tryz.sizeOf9
  v9 := Go.Proofs.Tryz.zeroValue9
  t20 := Go.Proofs.Tryz.underlying20
  a20 := Go.Proofs.Tryz.isAgg20
  z20 := Go.Proofs.Tryz.sizeOf20
  v20 := Go.Proofs.Tryz.zeroValue20
  t37 := Go.Proofs.Tryz.underlying83
  a37 := Go.Proofs.Tryz.isAgg83
  z37 := Go.Proofs.Tryz.sizeOf83
  v37 := Go.Proofs.Tryz.zeroValue83
  t46 := Go.Proofs.Tryz.underlying107
  a46 := Go.Proofs.Tryz.isAgg107
  z46 := Go.Proofs.Tryz.sizeOf107
  v46 := Go.Proofs.Tryz.zeroValue107
  t51 := Go.Proofs.Tryz.underlying135
  a51 := Go.Proofs.Tryz.isAgg135
  z51 := Go.Proofs.Tryz.sizeOf135
  v51 := Go.Proofs.Tryz.zeroValue135
  t53 := Go.Proofs.Tryz.underlying145
  a53 := Go.Proofs.Tryz.isAgg145
  z53 := Go.Proofs.Tryz.sizeOf145
  v53 := Go.Proofs.Tryz.zeroValue145
  t171 := Go.Proofs.Tryz.underlying144
  a171 := Go.Proofs.Tryz.isAgg144
  z171 := Go.Proofs.Tryz.sizeOf144
  v171 := Go.Proofs.Tryz.zeroValue144
  t173 := Go.Proofs.Tryz.underlying148
  a173 := Go.Proofs.Tryz.isAgg148
  z173 := Go.Proofs.Tryz.sizeOf148
  v173 := Go.Proofs.Tryz.zeroValue148
  t212 := Go.Proofs.Tryz.underlying157
  a212 := Go.Proofs.Tryz.isAgg157
  z212 := Go.Proofs.Tryz.sizeOf157
  v212 := Go.Proofs.Tryz.zeroValue157
  t213 := Go.Proofs.Tryz.underlying158
  a213 := Go.Proofs.Tryz.isAgg158
  z213 := Go.Proofs.Tryz.sizeOf158
  t232 := Go.Proofs.Tryz.underlying24
  a232 := Go.Proofs.Tryz.isAgg24
  z232 := Go.Proofs.Tryz.sizeOf24
  v232 := Go.Proofs.Tryz.zeroValue24
  t233 := Go.Proofs.Tryz.underlying170
  a233 := Go.Proofs.Tryz.isAgg170
  z233 := Go.Proofs.Tryz.sizeOf170
  v233 := Go.Proofs.Tryz.zeroValue170
  g17 := by kernel_rfl
  g18 := by kernel_rfl
  g19 := by kernel_rfl
  i0 := by kernel_rfl
  i2 := by kernel_rfl
  i3 := by kernel_rfl
  i4 := by kernel_rfl
  i5 := by kernel_rfl
  i9 := by kernel_rfl
  i20 := by kernel_rfl
  i37 := by kernel_rfl
  i46 := by kernel_rfl
  i51 := by kernel_rfl
  i53 := by kernel_rfl
  i171 := by kernel_rfl
  i173 := by kernel_rfl
  i212 := by kernel_rfl
  i232 := by kernel_rfl
  i233 := by kernel_rfl
  m17 := by kernel_rfl
  m18 := by kernel_rfl
  m19 := by kernel_rfl }
end
section
open Go Go.SL Go.RowKit
section
/-- A number's decimal digits, as bytes. -/
def dig (u : Nat) : List Int := (Lib.decDigits u).map fun b => (b.toNat : Int)
/-- A number's text. -/
def numT (n : Int) : List Int := if n < 0 then 45 :: dig n.natAbs else dig n.toNat
theorem dig_length (u : Nat) : (dig u).length = Lib.nDigits u := by unfold dig; rw [List.length_map, Lib.decDigits_length]
theorem dig_small {u : Nat} (h : u < 10) : dig u = [(48 + u : Int)] := by
  unfold dig
  rw [Lib.decDigits_one h]
  simp
  omega
theorem dig_big {u : Nat} (h : ¬ u < 10) : dig u = dig (u / 10) ++ [(48 + u % 10 : Int)] := by
  unfold dig
  rw [Lib.decDigits, dif_neg h, List.map_append]
  congr 1
  simp
  omega
theorem dig_step (u : Nat) : (u < 10 ∧ dig u = [(48 + u : Int)]) ∨ (¬ u < 10 ∧ dig u = dig (u / 10) ++ [(48 + u % 10 : Int)]) := by
  by_cases h : u < 10
  · exact .inl ⟨h, dig_small h⟩
  · exact .inr ⟨h, dig_big h⟩
theorem dig_byte : ∀ (u : Nat), ∀ x ∈ dig u, 48 ≤ x ∧ x ≤ 57 := by
  intro u
  induction u using Nat.strongRecOn with
  | ind u ih =>
    intro x hx
    rcases dig_step u with ⟨h, e⟩ | ⟨h, e⟩
    · rw [e] at hx
      obtain rfl := List.mem_singleton.1 hx
      omega
    · rw [e] at hx
      rcases List.mem_append.1 hx with q | q
      · exact ih (u / 10) (by omega) x q
      · obtain rfl := List.mem_singleton.1 q
        omega
theorem dig_ne (u : Nat) : dig u ≠ [] := by
  intro h
  have h2 := dig_length u
  rw [h] at h2
  have := Lib.nDigits_pos u
  simp at h2
  omega
theorem numT_byte (i : Int) : ∀ x ∈ numT i, x = 45 ∨ 48 ≤ x ∧ x ≤ 57 := by
  intro x hx
  unfold numT at hx
  split at hx
  · rcases List.mem_cons.1 hx with q | q
    · exact .inl q
    · exact .inr (dig_byte _ x q)
  · exact .inr (dig_byte _ x hx)
theorem numT_bys (i : Int) : Bys (numT i) := fun x hx => by have := numT_byte i x hx; omega
theorem numT_nat (n : Nat) : numT n = dig n := by unfold numT; rw [if_neg (by omega)]; rfl
theorem numT_length {i : Int} (h0 : -9223372036854775808 ≤ i) (h1 : i ≤ 9223372036854775807) : (numT i).length ≤ 21 := by
  have h : ∀ u : Nat, u < 18446744073709551616 → (dig u).length ≤ 20 := fun u hu => by
    rw [dig_length]
    rcases Nat.eq_zero_or_pos u with rfl | h1
    · rw [Lib.nDigits_small (by omega)]; omega
    · have := Lib.numDigits_eq u h1 hu
      split at this <;> omega
  unfold numT
  split
  · have := h i.natAbs (by omega)
    rw [List.length_cons]; omega
  · have := h i.toNat (by omega)
    omega
theorem itoa_bytes (n : Int) : (⟨(Lib.itoa n).toArray⟩ : ByteArray) = strOf (numT n) := by
  apply bytesS_inj
  rw [bytesS_strOf (numT_bys n)]
  unfold bytesS numT Lib.itoa
  simp only
  by_cases h : n < 0
  · rw [if_pos h, if_pos (by omega)]
    rw [List.map_cons]
    rfl
  · rw [if_neg h, if_neg (by omega)]
    rfl
theorem dig_lt {u k : Nat} (h : (dig u).length ≤ k) : u < 10 ^ k := by
  rw [dig_length] at h
  exact Nat.lt_of_lt_of_le (Lib.lt_pow_nDigits u) (Nat.pow_le_pow_right (by omega) h)
theorem dig_le {u k : Nat} (h : u < 10 ^ k) (hk : 1 ≤ k) : (dig u).length ≤ k := by
  rw [dig_length]
  induction k generalizing u with
  | zero => omega
  | succ k ih =>
    by_cases hu : u < 10
    · rw [Lib.nDigits_small hu]; omega
    · rw [Lib.nDigits_big hu]
      have : u / 10 < 10 ^ k := by rw [Nat.div_lt_iff_lt_mul (by omega)]; rw [Nat.pow_succ] at h; omega
      rcases Nat.eq_zero_or_pos k with rfl | hk
      · simp at this; omega
      · have := ih this hk
        omega
theorem decFrom_app : ∀ (a b : List UInt8) (k : Nat), Lib.decFrom k (a ++ b) = (Lib.decFrom k a).bind fun m => Lib.decFrom m b
  | [], b, k => rfl
  | c :: a, b, k => by
    rw [List.cons_append, Lib.decFrom, Lib.decFrom]
    cases Lib.digitVal c with
    | none => rfl
    | some d => exact decFrom_app a b _
theorem decFrom_dig : ∀ (u : Nat), Lib.decFrom 0 (Lib.decDigits u) = some u := by
  intro u
  induction u using Nat.strongRecOn with
  | ind u ih =>
    by_cases h : u < 10
    · rw [Lib.decDigits_one h]
      have e : Lib.digitVal (UInt8.ofNat (48 + u)) = some u := by
        unfold Lib.digitVal
        have : (UInt8.ofNat (48 + u)).toNat = 48 + u := by simp; omega
        rw [this, if_pos (by omega)]
        congr 1; omega
      rw [Lib.decFrom, e]
      simp [Lib.decFrom]
    · rw [Lib.decDigits, dif_neg h, decFrom_app, ih (u / 10) (by omega), Option.bind_some]
      have e : Lib.digitVal (UInt8.ofNat (48 + u % 10)) = some (u % 10) := by
        unfold Lib.digitVal
        have : (UInt8.ofNat (48 + u % 10)).toNat = 48 + u % 10 := by simp; omega
        rw [this, if_pos (by omega)]
        congr 1; omega
      rw [Lib.decFrom, e]
      simp [Lib.decFrom]
      omega
theorem dig_data (u : Nat) : (strOf (dig u)).data.toList = Lib.decDigits u := by
  rw [strOf_data]
  unfold dig
  rw [List.map_map]
  conv => rhs; rw [← List.map_id (Lib.decDigits u)]
  exact List.map_congr_left fun b _ => by simp
theorem atoi_dig {u : Nat} (h : u < 10 ^ 18) : Lib.atoiAll (strOf (dig u)).data.toList = .ok (u : Int) := by
  rw [dig_data, Lib.atoiAll_short _ (by have := dig_le h (by omega); rwa [dig_length, ← Lib.decDigits_length] at this)]
  have hd := decFrom_dig u
  have hb : ∀ b ∈ Lib.decDigits u, b.toNat ≠ 45 ∧ b.toNat ≠ 43 := fun b hb => by
    have := dig_byte u (b.toNat : Int) (by unfold dig; exact List.mem_map.2 ⟨b, hb, rfl⟩)
    omega
  have hne : Lib.decDigits u ≠ [] := fun e => dig_ne u (by unfold dig; rw [e]; rfl)
  generalize Lib.decDigits u = l at hd hb hne
  cases l with
  | nil => exact absurd rfl hne
  | cons b r =>
    have h1 := hb b (by simp)
    have q1 : ¬ (b == 45) = true := fun q => by have := eq_of_beq q; subst this; exact h1.1 rfl
    have q2 : ¬ (b == 43) = true := fun q => by have := eq_of_beq q; subst this; exact h1.2 rfl
    simp only [Lib.atoi]
    rw [if_neg q1, if_neg q2]
    unfold Lib.decNat
    rw [if_neg (by simp), hd]
    rfl
variable {P : Program} {E : World} {l r : List HProp}
theorem Sat.kept {A : HProp} {w w' : World} (s : Sat E A w) (hb : Below w.heap.size w w') : Sat E A w' := by
  refine ⟨hb.os.trans s.os, hb.tape.trans s.tape, hb.output.trans s.output, ?_⟩
  obtain ⟨h, hs, a⟩ := s.heap
  exact ⟨h, fun k o e => (hb.block k (Array.getElem?_eq_some_iff.1 (hs k o e)).1).trans (hs k o e), a⟩
theorem TabIs.keep {w0 w : World} {n : String} {k : IntKind} {zs : List Int} (h : Lib.TabIs P w0 n k zs) (hk : ∀ (b : Nat) (o : Obj), w0.heap[b]? = some o → w.heap[b]? = some o) : Lib.TabIs P w n k zs := by
  unfold Lib.TabIs World.var? at *
  cases hg : P.globalNamed n with
  | none => simp [hg] at h
  | some g =>
    simp only [hg, Option.bind_some] at h ⊢
    cases e : w0.heap[g]? with
    | none => rw [e] at h; simp at h
    | some o => rw [hk g o e]; rw [e] at h; exact h
theorem Fc.ofCalls {f : FuncId} {args : Array Value} {R : Value → List HProp → Prop} (h : ∀ w, Sat E (stars l) w → Calls P f args w fun e w' => ∃ v l', e = .returned v ∧ Sat E (stars l') w' ∧ R v l') : Fc P E f args l R := h
/-- A variable that holds an error. -/
def ErrAt (w : World) (g : Nat) : Prop := ∃ te pe, w.cell? ⟨g, 0, none⟩ = some (.iface te pe)
/-- The tables and errors that the program's text lays are there. -/
structure K24 (E : World) (l : List HProp) : Prop where
  tab : ∀ w, Sat E (stars l) w → Lib.TabIs prog w "internal/strconv.uint64pow10" .u64 Lib.pow10Tab
  syn : ∀ w, Sat E (stars l) w → ErrAt w 1
  rng : ∀ w, Sat E (stars l) w → ErrAt w 2
theorem K24.cons (h : K24 E l) (A : HProp) : K24 E (A :: l) := ⟨fun w s => h.tab w s.drop, fun w s => h.syn w s.drop, fun w s => h.rng w s.drop⟩
theorem K24.app (h : K24 E l) (m : List HProp) : K24 E (m ++ l) := ⟨fun w s => h.tab w (s.dropApp m), fun w s => h.syn w (s.dropApp m), fun w s => h.rng w (s.dropApp m)⟩
theorem ErrAt.keep {w0 w : World} {g : Nat} (h : ErrAt w0 g) (hk : ∀ (b : Nat) (o : Obj), w0.heap[b]? = some o → w.heap[b]? = some o) : ErrAt w g := by
  obtain ⟨te, pe, h⟩ := h
  refine ⟨te, pe, ?_⟩
  unfold World.cell? at h ⊢
  cases e : w0.heap[g]? with
  | none => simp [e] at h
  | some o => rw [hk g o e]; rw [e] at h; exact h
theorem K24.old {w0 : World} (h1 : Lib.TabIs prog w0 "internal/strconv.uint64pow10" .u64 Lib.pow10Tab) (h2 : ErrAt w0 1) (h3 : ErrAt w0 2) (hp : Pick l (old w0) r) : K24 E l :=
  ⟨fun _ s => TabIs.keep h1 fun _ _ => (s.pick hp).elder, fun _ s => h2.keep fun _ _ => (s.pick hp).elder, fun _ s => h3.keep fun _ _ => (s.pick hp).elder⟩
end
section
attribute [local irreducible] J JL JE JM LS Y Fc RV Code.wp wpList Code.wpIn wpListIn
attribute [local irreducible] Yc
variable (E : World)
theorem itoa_spec (n : Int) (l : List HProp) (h0 : -9223372036854775808 ≤ n) (h1 : n ≤ 9223372036854775807) (hk : K24 E l) : Fc prog E 74 [.int .i64 n].toArray l (fun v l' => v = .string (strOf (numT n)) ∧ l' = l) := Fc.ofCalls fun w s =>
  (Any.strconv_Itoa laysM171 n h0 h1 w (hk.tab w s)).mono fun e w' ⟨he, k, os, hw⟩ => by
    refine ⟨_, l, he, ?_, by rw [itoa_bytes], rfl⟩
    rw [hw]
    refine Sat.kept s ⟨rfl, rfl, rfl, ?_, fun j hj => ?_⟩
    · simp [Sort.grow, World.drewN]
    · show ((w.drewN k).heap ++ os)[j]? = _
      rw [Array.getElem?_append_left (by exact hj)]
      rfl
/-- strconv.Atoi: a number, or an error. -/
theorem atoi_spec (xs : List Int) (l : List HProp) (hl : xs.length ≤ 1000000) (hk : K24 E l) : Fc prog E 87 [.string (strOf xs)].toArray l (fun v l' => ∃ z e, v = .tuple #[.int .i64 z, e] ∧ (-9223372036854775808 ≤ z ∧ z ≤ 9223372036854775807) ∧ ((e = .nilIface ∧ Lib.atoiAll (strOf xs).data.toList = .ok z) ∨ ((∃ te pe, e = .iface te pe) ∧ ∀ z, Lib.atoiAll (strOf xs).data.toList ≠ .ok z)) ∧ l' = l) := Fc.ofCalls fun w s => by
  have hsz : (strOf xs).size ≤ 1000000 := by rw [strOf_size]; exact hl
  cases h : Lib.atoiAll (strOf xs).data.toList with
  | ok z =>
    refine (Any.strconv_Atoi_ok laysC172 (strOf xs) (by omega) z h w).mono fun e w' ⟨he, hw⟩ => ?_
    refine ⟨_, l, he, ?_, z, .nilIface, rfl, Lib.atoiAll_bounds h, .inl ⟨rfl, rfl⟩, rfl⟩
    rcases hw with rfl | ⟨t, rfl⟩
    · exact s
    · exact Sat.kept s (Joins.below_bytesWorld _ _ _ _ (Nat.le_refl _))
  | range =>
    obtain ⟨te, pe, hv⟩ := hk.rng w s
    refine (Any.strconv_Atoi_range laysC172 (strOf xs) (by omega) h _ w hv (.inr ⟨te, pe, rfl⟩)).mono fun e w' ⟨N, he, _, _, hw⟩ => ?_
    exact ⟨_, l, he, Sat.kept s hw, _, _, rfl, Lib.atoiSat_bounds _, .inr ⟨⟨_, _, rfl⟩, fun z => by simp⟩, rfl⟩
  | _ =>
    obtain ⟨te, pe, hv⟩ := hk.syn w s
    refine (Any.strconv_Atoi_syntax laysC172 (strOf xs) (by omega) h _ w hv (.inr ⟨te, pe, rfl⟩)).mono fun e w' ⟨N, he, _, _, hw⟩ => ?_
    exact ⟨_, l, he, Sat.kept s hw, 0, _, rfl, ⟨by omega, by omega⟩, .inr ⟨⟨_, _, rfl⟩, fun z => by simp⟩, rfl⟩
end
end
section
open Go Go.SL
section
/-- The part in front of the first blank; what begins at it. -/
def headW (xs : List Int) : List Int := xs.takeWhile (· != 32)
theorem headW_le (xs : List Int) : (headW xs).length ≤ xs.length := (List.takeWhile_prefix _).length_le
theorem headW_take (xs : List Int) : xs.take (headW xs).length = headW xs := (List.prefix_iff_eq_take.1 (List.takeWhile_prefix _)).symm
theorem headW_bys {xs : List Int} (h : Bys xs) : Bys (headW xs) := by rw [← headW_take]; exact h.take _
theorem headW_lt {xs : List Int} : (headW xs).length < xs.length ↔ 32 ∈ xs := by
  unfold headW
  induction xs with
  | nil => simp
  | cons x xs ih =>
    by_cases h : x = 32
    · simp [h, List.takeWhile_cons]
    · have h2 : (x != 32) = true := by simpa using h
      rw [List.takeWhile_cons, if_pos h2, List.length_cons, List.length_cons, Nat.succ_lt_succ_iff, ih]
      simp [Ne.symm h]
theorem headW_at {xs : List Int} (h : 32 ∈ xs) : xs[(headW xs).length]? = some 32 := by
  unfold headW
  induction xs with
  | nil => cases h
  | cons x xs ih =>
    by_cases h1 : x = 32
    · simp [h1, List.takeWhile_cons]
    · have h2 : (x != 32) = true := by simpa using h1
      rw [List.takeWhile_cons, if_pos h2, List.length_cons, List.getElem?_cons_succ]
      exact ih ((List.mem_cons.1 h).resolve_left (Ne.symm h1))
theorem headW_none (xs : List Int) : 32 ∉ headW xs := by
  unfold headW
  induction xs with
  | nil => simp
  | cons x xs ih =>
    by_cases h1 : x = 32
    · simp [h1]
    · have h2 : (x != 32) = true := by simpa using h1
      rw [List.takeWhile_cons, if_pos h2]
      intro q
      rcases List.mem_cons.1 q with q | q
      · exact h1 q.symm
      · exact ih q
theorem headW_all {xs : List Int} (h : 32 ∉ xs) : headW xs = xs := by
  have h1 : ¬ (headW xs).length < xs.length := fun q => h (headW_lt.1 q)
  rw [← headW_take, List.take_of_length_le (by omega)]
/-- Where the first blank is; less than nought: nowhere. -/
def spI (xs : List Int) : Int := if 32 ∈ xs then ((headW xs).length : Int) else -1
theorem idx_bytes {xs : List Int} (h : Bys xs) : Lib.indexByte (strOf xs).data.toList (32 : UInt8) = spI xs := by
  rw [strOf_data]
  induction xs with
  | nil => rfl
  | cons x xs ih =>
    have ih := ih fun y hy => h y (List.mem_cons_of_mem _ hy)
    have hx := h x (List.mem_cons_self ..)
    rw [List.map_cons]
    unfold Lib.indexByte
    rw [ih]
    have e : (UInt8.ofNat x.toNat == (32 : UInt8)) = decide (x = 32) := by
      rw [Bool.eq_iff_iff, beq_iff_eq, decide_eq_true_iff]
      constructor
      · intro q
        have q2 := congrArg UInt8.toNat q
        rw [UInt8.toNat_ofNat_of_lt' (by show x.toNat < 256; omega)] at q2
        have : x.toNat = 32 := q2
        omega
      · rintro rfl; rfl
    rw [e]
    by_cases h1 : x = 32
    · subst h1
      simp [spI, headW, List.takeWhile_cons]
    · have h2 : (x != 32) = true := by simpa using h1
      have hh : (headW (x :: xs)).length = (headW xs).length + 1 := by
        unfold headW
        rw [List.takeWhile_cons, if_pos h2, List.length_cons]
      rw [if_neg (by simpa using h1)]
      unfold spI
      rw [hh]
      by_cases h3 : 32 ∈ xs
      · rw [if_pos h3, if_pos (List.mem_cons_of_mem _ h3), if_neg (by
          intro q
          have q2 := eq_of_beq q
          omega)]
        omega
      · rw [if_neg h3, if_pos (by decide), if_neg (by
          intro q
          rcases List.mem_cons.1 q with q | q
          · exact h1 q.symm
          · exact h3 q)]
/-- The first byte that may not stand in a text. -/
def oddB (x : Int) : Bool := decide (x < 32) || decide (126 < x)
def oddI (xs : List Int) : Int := if xs.any oddB then ((xs.takeWhile fun x => !oddB x).length : Int) else -1
theorem oddI_at {xs : List Int} {i : Nat} {x : Int} (h : ∀ j y, j < i → xs[j]? = some y → oddB y = false) (hx : xs[i]? = some x) (ho : oddB x = true) : oddI xs = i := by
  unfold oddI
  rw [if_pos (List.any_eq_true.2 ⟨x, List.mem_of_getElem? hx, ho⟩)]
  congr 1
  induction xs generalizing i with
  | nil => simp at hx
  | cons y ys ih =>
    cases i with
    | zero =>
      rw [List.getElem?_cons_zero] at hx
      cases hx
      rw [List.takeWhile_cons, if_neg (by simp [ho])]
      rfl
    | succ i =>
      rw [List.getElem?_cons_succ] at hx
      have h0 := h 0 y (by omega) rfl
      rw [List.takeWhile_cons, if_pos (by simp [h0]), List.length_cons, ih (fun j z hj hz => h (j + 1) z (by omega) (by rw [List.getElem?_cons_succ]; exact hz)) hx]
theorem oddI_none {xs : List Int} (h : ∀ (j : Nat) y, j < xs.length → xs[j]? = some y → oddB y = false) : oddI xs = -1 := by
  unfold oddI
  rw [if_neg]
  intro q
  obtain ⟨x, hx, ho⟩ := List.any_eq_true.1 q
  obtain ⟨j, hj, he⟩ := List.mem_iff_getElem.1 hx
  have := h j x hj (by rw [List.getElem?_eq_getElem hj, he])
  rw [this] at ho
  cases ho
theorem oddI_neg {xs : List Int} : oddI xs < 0 ↔ xs.any oddB = false := by
  unfold oddI
  cases h : xs.any oddB
  · simp
  · simp
def textB (xs : List Int) : Bool := decide (xs ≠ []) && decide (xs.length ≤ 48) && decide (oddI xs < 0)
/-- A name's signs. -/
def nmB (x : Int) : Bool := (decide (97 ≤ x) && decide (x ≤ 122)) || (decide (48 ≤ x) && decide (x ≤ 57)) || decide (x = 45)
def nameB (xs : List Int) : Bool := xs.all nmB && decide (xs ≠ []) && decide (xs.length ≤ 16)
theorem nmB_bad {xs : List Int} {i : Nat} {x : Int} (hx : xs[i]? = some x) (h : nmB x = false) : nameB xs = false := by
  unfold nameB
  have : xs.all nmB = false := by
    rw [Bool.eq_false_iff]
    intro q
    rw [List.all_eq_true.1 q x (List.mem_of_getElem? hx)] at h
    cases h
  rw [this]; rfl
theorem nmB_all {xs : List Int} (h : ∀ (j : Nat) y, j < xs.length → xs[j]? = some y → nmB y = true) : xs.all nmB = true := by
  rw [List.all_eq_true]
  intro x hx
  obtain ⟨j, hj, he⟩ := List.mem_iff_getElem.1 hx
  exact h j x hj (by rw [List.getElem?_eq_getElem hj, he])
end
section
attribute [local irreducible] J JL JE JM LS Y Fc RV Code.wp wpList Code.wpIn wpListIn
attribute [local irreducible] Yc strOf
variable (E : World)
theorem idxG_spec (s : ByteArray) (c : Int) (l : List HProp) : Fc prog E 100 [.string s, .int .u8 c].toArray l (fun v l' => v = .int .i64 (Lib.indexByte s.data.toList (UInt8.ofNat c.toNat)) ∧ l' = l) := by
  refine Fc.eqs ?_
  refine Fc.of_body (c := ?codeC) Tryz.func100 ?hb Tryz.ntmps100 ?hl ?_
  case hb => exact rfl
  case hl => exact rfl
  refine J.seq ?_
  refine J.region ?_
  refine JL.step (y_assign rfl) rfl rfl rfl ?_
  refine JL.nil ?_
  refine JE.then_normal ?_
  refine J.seq ?_
  refine J.region ?_
  refine JL.step (y_move rfl) rfl rfl rfl (JL.step (y_move rfl) rfl rfl rfl ?_)
  refine JL.loud rfl (l_callE (us := [.string s, .int .u8 c]) rfl rfl (fun w hs => ⟨.int .i64 (Lib.indexByte s.data.toList (UInt8.ofNat c.toNat)), w, l, ?_, hs, ?_⟩))
  · rw [run_callFunc_extern (fn := Tryz.f113) Tryz.func113 (by kernel_rfl) (by kernel_rfl) (by kernel_rfl) (he := show _ = some Extern.BytealgIndexByte.indexByte by kernel_rfl)]
    show ((Extern.BytealgIndexByte.indexByte #[.string s, .int .u8 c]).run prog w).andThen _ = _
    rw [Lib.run_indexByteString]
    rfl
  refine JL.step (y_assign rfl) rfl rfl rfl ?_
  refine JL.nil ?_
  refine JE.then_normal ?_
  refine J.ret ?_
  refine JE.ret1 (.inl rfl) rfl rfl (by (first | exact RV.tmp rfl | exact RV.cell1 hT rfl rfl rfl (by (exact Rd1.row (by (repeat (first | exact Pick.head | apply Pick.tail | apply Pick.app))) (by rfl))) | exact RV.cellN hT rfl rfl rfl (by (first | exact RdN.rowAll (by (repeat (first | exact Pick.head | apply Pick.tail | apply Pick.app))) | exact RdN.own (by (repeat (first | exact Pick.head | apply Pick.tail | apply Pick.app))))) (by (first | rfl | assumption | (simp; done) | omega)))) ?_
  exact ⟨rfl, fun w h => h⟩
theorem idxH_spec (s : ByteArray) (c : Int) (l : List HProp) : Fc prog E 85 [.string s, .int .u8 c].toArray l (fun v l' => v = .int .i64 (Lib.indexByte s.data.toList (UInt8.ofNat c.toNat)) ∧ l' = l) := by
  refine Fc.eqs ?_
  refine Fc.of_body (c := ?codeC) Tryz.func85 ?hb Tryz.ntmps85 ?hl ?_
  case hb => exact rfl
  case hl => exact rfl
  refine J.seq ?_
  refine J.region ?_
  refine JL.step (y_assign rfl) rfl rfl rfl ?_
  refine JL.nil ?_
  refine JE.then_normal ?_
  refine J.seq ?_
  refine J.region ?_
  refine JL.step (y_move rfl) rfl rfl rfl (JL.step (y_move rfl) rfl rfl rfl ?_)
  refine JL.loud rfl (l_callF e100 rfl rfl (idxG_spec E s c _) ?_)
  rintro _ _ ⟨rfl, rfl⟩
  refine JL.step (y_assign rfl) rfl rfl rfl ?_
  refine JL.nil ?_
  refine JE.then_normal ?_
  refine J.ret ?_
  refine JE.ret1 (.inl rfl) rfl rfl (by (first | exact RV.tmp rfl | exact RV.cell1 hT rfl rfl rfl (by (exact Rd1.row (by (repeat (first | exact Pick.head | apply Pick.tail | apply Pick.app))) (by rfl))) | exact RV.cellN hT rfl rfl rfl (by (first | exact RdN.rowAll (by (repeat (first | exact Pick.head | apply Pick.tail | apply Pick.app))) | exact RdN.own (by (repeat (first | exact Pick.head | apply Pick.tail | apply Pick.app))))) (by (first | rfl | assumption | (simp; done) | omega)))) ?_
  exact ⟨rfl, fun w h => h⟩
theorem idxB_spec (xs : List Int) (l : List HProp) (hB : Bys xs) : Fc prog E 85 [.string (strOf xs), .int .u8 32].toArray l (fun v l' => v = .int .i64 (spI xs) ∧ l' = l) := by
  have h := idxH_spec E (strOf xs) 32 l
  rw [show UInt8.ofNat (32 : Int).toNat = (32 : UInt8) from rfl, idx_bytes hB] at h
  exact h
theorem idxS_spec (xs : List Int) (l : List HProp) (hB : Bys xs) : Fc prog E 83 [.string (strOf xs), .string ⟨#[32]⟩].toArray l (fun v l' => v = .int .i64 (spI xs) ∧ l' = l) := by
  refine Fc.eqs ?_
  obtain ⟨b, hb⟩ : ∃ b, b = decide ([32] = xs) := ⟨_, rfl⟩
  have B32 : Bys [32] := Bys.all rfl
  refine Fc.of_body (c := ?codeC) Tryz.func83 ?hb Tryz.ntmps83 ?hl ?_
  case hb => exact rfl
  case hl => exact rfl
  refine J.seq ?_
  refine J.region ?_
  refine JL.step (y_assign rfl) rfl rfl rfl ?_
  refine JL.nil ?_
  refine JE.then_normal ?_
  refine J.seq ?_
  refine J.region ?_
  refine JL.step (y_move rfl) rfl rfl rfl ?_
  refine JL.step (v := .int .i64 1) (Y.cast (y_len_string (s := ⟨#[32]⟩) hT rfl rfl rfl) rfl) rfl rfl rfl ?_
  refine JL.step (y_assign rfl) rfl rfl rfl ?_
  refine JL.nil ?_
  refine JE.then_normal ?_
  refine J.seq ?_
  refine J.block ?_
  refine J.seq ?_
  refine J.region ?_
  refine JL.step (y_move rfl) rfl rfl rfl (JL.step (y_eql rfl rfl) rfl rfl rfl (JL.step (y_move rfl) rfl rfl rfl ?_))
  all_goals (first | (refine JL.gsplit_dec rfl rfl rfl (fun h => ?_) (fun h => ?_) <;> try (first | (exfalso; omega) | exact absurd rfl h)) | (refine JL.gsplit rfl rfl rfl (fun h => ?_) (fun h => ?_) <;> try (first | cases h | (exfalso; simp at h; done))) | skip)
  all_goals (first | refine JL.gskip rfl rfl rfl rfl rfl rfl ?_ | refine JL.gskipU rfl rfl rfl rfl rfl ?_ | refine JL.gstep rfl rfl rfl (y_move rfl) rfl rfl ?_)
  all_goals (first | refine JL.gskip rfl rfl rfl rfl rfl rfl ?_ | refine JL.gskipU rfl rfl rfl rfl rfl ?_ | refine JL.gstep rfl rfl rfl (y_move rfl) rfl rfl ?_)
  all_goals (first | refine JL.gskip rfl rfl rfl rfl rfl rfl ?_ | refine JL.gskipU rfl rfl rfl rfl rfl ?_ | refine JL.gstep rfl rfl rfl (y_eqS (b := b) B32 hB (by unfold strOf; rfl) rfl hb) rfl rfl ?_)
  all_goals (refine JL.step (y_pick rfl rfl rfl) rfl rfl rfl ?_)
  all_goals (refine JL.step (y_assign rfl) rfl rfl rfl ?_)
  all_goals refine JL.nil ?_
  all_goals refine JE.then_normal ?_
  all_goals
    first | apply J.cond_dec rfl | apply J.cond rfl
    case' ht =>
      intro h
      try (first | (exfalso; omega) | (cases h; done) | (exfalso; simp at h; done) | subst h)
      all_goals
        refine J.seq ?_
        refine J.region ?_
        refine JL.step (y_assign rfl) rfl rfl rfl ?_
        refine JL.nil ?_
        refine JE.then_normal ?_
        refine J.ret ?_
        refine JE.block_ret ?_
        refine JE.then_ret ?_
        refine JE.ret1 (.inl rfl) rfl rfl (by (first | exact RV.tmp rfl | exact RV.cell1 hT rfl rfl rfl (by (exact Rd1.row (by (repeat (first | exact Pick.head | apply Pick.tail | apply Pick.app))) (by rfl))) | exact RV.cellN hT rfl rfl rfl (by (first | exact RdN.rowAll (by (repeat (first | exact Pick.head | apply Pick.tail | apply Pick.app))) | exact RdN.own (by (repeat (first | exact Pick.head | apply Pick.tail | apply Pick.app))))) (by (first | rfl | assumption | (simp; done) | omega)))) ?_
        first
        | (have e : [32] = xs := of_decide_eq_true hb.symm
           rw [← e]
           exact ⟨rfl, fun w h => h⟩)
        | rw [show UInt8.ofNat (32 : Int).toNat = (32 : UInt8) from rfl, idx_bytes hB]
          exact ⟨rfl, fun w h => h⟩
    case' hf =>
      intro h
      try (first | (exfalso; omega) | (cases h; done) | (exfalso; simp at h; done) | subst h)
      all_goals
        refine J.seq ?_
        refine J.region ?_
        refine JL.step (y_move rfl) rfl rfl rfl (JL.step (y_eql rfl rfl) rfl rfl rfl (JL.step (y_assign rfl) rfl rfl rfl ?_))
        refine JL.nil ?_
        refine JE.then_normal ?_
        refine J.cond_t rfl (by (first | rfl | assumption | (simp; done) | (simp; omega))) ?_
        refine J.seq ?_
        refine J.region ?_
        refine JL.step (y_move rfl) rfl rfl rfl (JL.step (y_move rfl) rfl rfl rfl ?_)
        refine JL.step (y_index_str (i := 0) (b := 32) hT rfl rfl rfl rfl rfl rfl) rfl rfl rfl ?_
        refine JL.loud rfl (l_callF e100 rfl rfl (idxG_spec E (strOf xs) 32 _) ?_)
        rintro _ _ ⟨rfl, rfl⟩
        refine JL.step (y_assign rfl) rfl rfl rfl ?_
        refine JL.nil ?_
        refine JE.then_normal ?_
        refine J.ret ?_
        refine JE.block_ret ?_
        refine JE.then_ret ?_
        refine JE.ret1 (.inl rfl) rfl rfl (by (first | exact RV.tmp rfl | exact RV.cell1 hT rfl rfl rfl (by (exact Rd1.row (by (repeat (first | exact Pick.head | apply Pick.tail | apply Pick.app))) (by rfl))) | exact RV.cellN hT rfl rfl rfl (by (first | exact RdN.rowAll (by (repeat (first | exact Pick.head | apply Pick.tail | apply Pick.app))) | exact RdN.own (by (repeat (first | exact Pick.head | apply Pick.tail | apply Pick.app))))) (by (first | rfl | assumption | (simp; done) | omega)))) ?_
        first
        | (have e : [32] = xs := of_decide_eq_true hb.symm
           rw [← e]
           exact ⟨rfl, fun w h => h⟩)
        | rw [show UInt8.ofNat (32 : Int).toNat = (32 : UInt8) from rfl, idx_bytes hB]
          exact ⟨rfl, fun w h => h⟩
def cutV (xs : List Int) : Value := .tuple #[.string (strOf (headW xs)), .string (strOf (xs.drop ((headW xs).length + 1))), .bool (decide (32 ∈ xs))]
theorem cutL_spec (xs : List Int) (l : List HProp) (hB : Bys xs) (hl : xs.length ≤ 1000000) : Fc prog E 62 [.string (strOf xs), .string ⟨#[32]⟩].toArray l (fun v l' => v = cutV xs ∧ l' = l) := by
  refine Fc.eqs ?_
  have hle := headW_le xs
  refine Fc.of_body (c := ?codeC) Tryz.func62 ?hb Tryz.ntmps62 ?hl ?_
  case hb => exact rfl
  case hl => exact rfl
  refine J.seq ?_
  refine J.region ?_
  refine JL.step (y_assign rfl) rfl rfl rfl (JL.step (y_assign rfl) rfl rfl rfl (JL.step (y_assign rfl) rfl rfl rfl ?_))
  refine JL.nil ?_
  refine JE.then_normal ?_
  refine J.seq ?_
  refine J.seq ?_
  refine J.region ?_
  refine JL.step (y_move rfl) rfl rfl rfl (JL.step (y_move rfl) rfl rfl rfl ?_)
  refine JL.loud rfl (l_callF e83 rfl rfl (idxS_spec E xs _ hB) ?_)
  rintro _ _ ⟨rfl, rfl⟩
  refine JL.step (y_assign rfl) rfl rfl rfl ?_
  refine JL.nil ?_
  refine JE.then_normal ?_
  refine J.seq ?_
  obtain ⟨z, hz⟩ : ∃ z, spI xs = z := ⟨_, rfl⟩
  rw [hz]
  have hz2 : (32 ∈ xs ∧ z = (headW xs).length) ∨ (32 ∉ xs ∧ z = -1) := by
    rw [← hz]; unfold spI
    by_cases q : 32 ∈ xs
    · exact .inl ⟨q, if_pos q⟩
    · exact .inr ⟨q, if_neg q⟩
  refine J.region ?_
  refine JL.step (y_move rfl) rfl rfl rfl (JL.step (y_geq rfl rfl) rfl rfl rfl ?_)
  refine JL.nil ?_
  refine JE.then_normal ?_
  first | apply J.cond_dec rfl | apply J.cond rfl
  case' ht =>
    intro h
    try (first | (exfalso; omega) | (cases h; done) | (exfalso; simp at h; done) | subst h)
    all_goals
      refine J.seq ?_
      obtain ⟨hm, rfl⟩ : 32 ∈ xs ∧ z = (headW xs).length := by
        rcases hz2 with q | ⟨_, q⟩
        · exact q
        · omega
      have hlt := headW_lt.2 hm
      refine J.draw _ _ [(0, .q), (1, .q), (2, .q), (3, .q), (4, .q), (5, .q), (6, .q), (7, .q), (8, .q), (9, .q), (10, .q), (11, .q)] mixed (by kernel_rfl) (Split.nil) ?_
      refine JM.quiet rfl rfl rfl rfl (fun m => y_move rfl) ?_
      refine JM.quiet rfl rfl rfl rfl (fun m => y_move rfl) ?_
      refine JM.quiet rfl rfl rfl rfl (fun m => y_cutS (lo := 0) (hi := (headW xs).length) hT hB rfl rfl rfl (.inl ⟨rfl, rfl⟩) (.inr ⟨_, _, _, rfl, rfl, rfl⟩) (Nat.zero_le _) hle) ?_
      refine JM.quiet rfl rfl rfl rfl (fun m => y_move rfl) ?_
      refine JM.quiet rfl rfl rfl rfl (fun m => y_move rfl) ?_
      refine JM.quiet rfl rfl rfl rfl (fun m => y_move rfl) ?_
      refine JM.quiet rfl rfl rfl rfl (fun m => y_len_string hT rfl rfl rfl) ?_
      refine JM.quiet rfl rfl rfl rfl (fun m => y_add (m := ((headW xs).length + 1 : Nat)) rfl rfl (by show IntKind.wrap .i64 (((headW xs).length : Int) + 1) = _; rw [IntKind.wrap_i64]; omega)) ?_
      refine JM.quiet rfl rfl rfl rfl (fun m => y_cutS (lo := (headW xs).length + 1) (hi := xs.length) hT hB rfl rfl rfl (.inr ⟨_, _, _, rfl, rfl, rfl⟩) (.inl ⟨rfl, rfl⟩) (by omega) (Nat.le_refl _)) ?_
      refine JM.quiet rfl rfl rfl rfl (fun m => y_assign rfl) ?_
      refine JM.quiet rfl rfl rfl rfl (fun m => y_assign rfl) ?_
      refine JM.quiet rfl rfl rfl rfl (fun m => y_assign rfl) ?_
      refine JM.nil ?_
      refine JE.then_normal ?_
      refine J.ret ?_
      refine JE.then_ret ?_
      refine JE.ret3 (.inl rfl) rfl rfl (by (first | exact RV.tmp rfl | exact RV.cell1 hT rfl rfl rfl (by (exact Rd1.row (by (repeat (first | exact Pick.head | apply Pick.tail | apply Pick.app))) (by rfl))) | exact RV.cellN hT rfl rfl rfl (by (first | exact RdN.rowAll (by (repeat (first | exact Pick.head | apply Pick.tail | apply Pick.app))) | exact RdN.own (by (repeat (first | exact Pick.head | apply Pick.tail | apply Pick.app))))) (by (first | rfl | assumption | (simp; done) | omega)))) (by (first | exact RV.tmp rfl | exact RV.cell1 hT rfl rfl rfl (by (exact Rd1.row (by (repeat (first | exact Pick.head | apply Pick.tail | apply Pick.app))) (by rfl))) | exact RV.cellN hT rfl rfl rfl (by (first | exact RdN.rowAll (by (repeat (first | exact Pick.head | apply Pick.tail | apply Pick.app))) | exact RdN.own (by (repeat (first | exact Pick.head | apply Pick.tail | apply Pick.app))))) (by (first | rfl | assumption | (simp; done) | omega)))) (by (first | exact RV.tmp rfl | exact RV.cell1 hT rfl rfl rfl (by (exact Rd1.row (by (repeat (first | exact Pick.head | apply Pick.tail | apply Pick.app))) (by rfl))) | exact RV.cellN hT rfl rfl rfl (by (first | exact RdN.rowAll (by (repeat (first | exact Pick.head | apply Pick.tail | apply Pick.app))) | exact RdN.own (by (repeat (first | exact Pick.head | apply Pick.tail | apply Pick.app))))) (by (first | rfl | assumption | (simp; done) | omega)))) ?_
      first
      | (have zz : 32 ∈ xs := hm
         unfold cutV
         rw [List.drop_zero, headW_take, List.take_length, decide_eq_true hm]
         exact ⟨rfl, fun w h => h⟩)
      | (have hm : 32 ∉ xs := by
           rcases hz2 with ⟨_, q⟩ | ⟨q, _⟩
           · omega
           · exact q
         unfold cutV
         rw [headW_all hm, decide_eq_false hm, List.drop_eq_nil_of_le (by omega), show strOf [] = ⟨#[]⟩ by unfold strOf; rfl]
         exact ⟨rfl, fun w h => h⟩)
  case' hf =>
    intro h
    try (first | (exfalso; omega) | (cases h; done) | (exfalso; simp at h; done) | subst h)
    all_goals
      refine J.skip ?_
  all_goals refine JE.then_normal ?_
  all_goals
    refine J.seq ?_
    refine J.region ?_
    refine JL.step (y_move rfl) rfl rfl rfl (JL.step (y_assign rfl) rfl rfl rfl (JL.step (y_assign rfl) rfl rfl rfl (JL.step (y_assign rfl) rfl rfl rfl ?_)))
    refine JL.nil ?_
    refine JE.then_normal ?_
    refine J.ret ?_
    refine JE.ret3 (.inl rfl) rfl rfl (by (first | exact RV.tmp rfl | exact RV.cell1 hT rfl rfl rfl (by (exact Rd1.row (by (repeat (first | exact Pick.head | apply Pick.tail | apply Pick.app))) (by rfl))) | exact RV.cellN hT rfl rfl rfl (by (first | exact RdN.rowAll (by (repeat (first | exact Pick.head | apply Pick.tail | apply Pick.app))) | exact RdN.own (by (repeat (first | exact Pick.head | apply Pick.tail | apply Pick.app))))) (by (first | rfl | assumption | (simp; done) | omega)))) (by (first | exact RV.tmp rfl | exact RV.cell1 hT rfl rfl rfl (by (exact Rd1.row (by (repeat (first | exact Pick.head | apply Pick.tail | apply Pick.app))) (by rfl))) | exact RV.cellN hT rfl rfl rfl (by (first | exact RdN.rowAll (by (repeat (first | exact Pick.head | apply Pick.tail | apply Pick.app))) | exact RdN.own (by (repeat (first | exact Pick.head | apply Pick.tail | apply Pick.app))))) (by (first | rfl | assumption | (simp; done) | omega)))) (by (first | exact RV.tmp rfl | exact RV.cell1 hT rfl rfl rfl (by (exact Rd1.row (by (repeat (first | exact Pick.head | apply Pick.tail | apply Pick.app))) (by rfl))) | exact RV.cellN hT rfl rfl rfl (by (first | exact RdN.rowAll (by (repeat (first | exact Pick.head | apply Pick.tail | apply Pick.app))) | exact RdN.own (by (repeat (first | exact Pick.head | apply Pick.tail | apply Pick.app))))) (by (first | rfl | assumption | (simp; done) | omega)))) ?_
    first
    | (have zz : 32 ∈ xs := hm
       unfold cutV
       rw [List.drop_zero, headW_take, List.take_length, decide_eq_true hm]
       exact ⟨rfl, fun w h => h⟩)
    | (have hm : 32 ∉ xs := by
         rcases hz2 with ⟨_, q⟩ | ⟨q, _⟩
         · omega
         · exact q
       unfold cutV
       rw [headW_all hm, decide_eq_false hm, List.drop_eq_nil_of_le (by omega), show strOf [] = ⟨#[]⟩ by unfold strOf; rfl]
       exact ⟨rfl, fun w h => h⟩)
theorem cut1_spec (xs : List Int) (l : List HProp) (hB : Bys xs) (hl : xs.length ≤ 1000000) : Fc prog E 34 [.string (strOf xs), .string ⟨#[32]⟩].toArray l (fun v l' => v = cutV xs ∧ l' = l) := by
  refine Fc.eqs ?_
  refine Fc.of_body (c := ?codeC) Tryz.func34 ?hb Tryz.ntmps34 ?hl ?_
  case hb => exact rfl
  case hl => exact rfl
  refine J.seq ?_
  refine J.region ?_
  refine JL.step (y_assign rfl) rfl rfl rfl (JL.step (y_assign rfl) rfl rfl rfl (JL.step (y_assign rfl) rfl rfl rfl ?_))
  refine JL.nil ?_
  refine JE.then_normal ?_
  refine J.seq ?_
  refine J.region ?_
  refine JL.step (y_move rfl) rfl rfl rfl (JL.step (y_move rfl) rfl rfl rfl ?_)
  refine JL.loud rfl (l_callF e62 rfl rfl (cutL_spec E xs _ hB hl) ?_)
  rintro _ _ ⟨rfl, rfl⟩
  refine JL.step (y_extract rfl rfl) rfl rfl rfl (JL.step (y_extract rfl rfl) rfl rfl rfl (JL.step (y_extract rfl rfl) rfl rfl rfl (JL.step (y_assign rfl) rfl rfl rfl (JL.step (y_assign rfl) rfl rfl rfl (JL.step (y_assign rfl) rfl rfl rfl ?_)))))
  refine JL.nil ?_
  refine JE.then_normal ?_
  refine J.ret ?_
  refine JE.ret3 (.inl rfl) rfl rfl (by (first | exact RV.tmp rfl | exact RV.cell1 hT rfl rfl rfl (by (exact Rd1.row (by (repeat (first | exact Pick.head | apply Pick.tail | apply Pick.app))) (by rfl))) | exact RV.cellN hT rfl rfl rfl (by (first | exact RdN.rowAll (by (repeat (first | exact Pick.head | apply Pick.tail | apply Pick.app))) | exact RdN.own (by (repeat (first | exact Pick.head | apply Pick.tail | apply Pick.app))))) (by (first | rfl | assumption | (simp; done) | omega)))) (by (first | exact RV.tmp rfl | exact RV.cell1 hT rfl rfl rfl (by (exact Rd1.row (by (repeat (first | exact Pick.head | apply Pick.tail | apply Pick.app))) (by rfl))) | exact RV.cellN hT rfl rfl rfl (by (first | exact RdN.rowAll (by (repeat (first | exact Pick.head | apply Pick.tail | apply Pick.app))) | exact RdN.own (by (repeat (first | exact Pick.head | apply Pick.tail | apply Pick.app))))) (by (first | rfl | assumption | (simp; done) | omega)))) (by (first | exact RV.tmp rfl | exact RV.cell1 hT rfl rfl rfl (by (exact Rd1.row (by (repeat (first | exact Pick.head | apply Pick.tail | apply Pick.app))) (by rfl))) | exact RV.cellN hT rfl rfl rfl (by (first | exact RdN.rowAll (by (repeat (first | exact Pick.head | apply Pick.tail | apply Pick.app))) | exact RdN.own (by (repeat (first | exact Pick.head | apply Pick.tail | apply Pick.app))))) (by (first | rfl | assumption | (simp; done) | omega)))) ?_
  exact ⟨rfl, fun w h => h⟩
theorem odd_spec (xs : List Int) (l : List HProp) (hB : Bys xs) (hl : xs.length ≤ 1000000) : Fc prog E 56 [.string (strOf xs)].toArray l (fun v l' => v = .int .i64 (oddI xs) ∧ l' = l) := by
  refine Fc.eqs ?_
  refine Fc.of_body (c := ?codeC) Tryz.func56 ?hb Tryz.ntmps56 ?hl ?_
  case hb => exact rfl
  case hl => exact rfl
  refine J.seq ?_
  refine J.region ?_
  refine JL.step (y_assign rfl) rfl rfl rfl ?_
  refine JL.nil ?_
  refine JE.then_normal ?_
  refine J.seq ?_
  refine J.seq ?_
  refine J.region ?_
  refine JL.step (y_move rfl) rfl rfl rfl ?_
  refine JL.step (y_lenS hT rfl rfl rfl) rfl rfl rfl ?_
  refine JL.step (y_move rfl) rfl rfl rfl ?_
  refine JL.nil ?_
  refine JE.then_normal ?_
  refine J.block ?_
  refine J.loop (α := Nat) (fun i => i ≤ xs.length ∧ ∀ (j : Nat) y, j < i → xs[j]? = some y → oddB y = false) (fun i => [(0, .string (strOf xs)), (5, .int .i64 xs.length), (6, .int .i64 i)]) (fun _ => l) (fun i => xs.length - i) 0 ⟨Nat.zero_le _, by omega⟩ ⟨rfl, rfl, rfl, trivial⟩ (fun w h => h) ?_
  rintro i ⟨hi, hb⟩
  try dsimp only
  refine J.seq ?_
  refine J.region ?_
  refine JL.step (y_lss rfl rfl) rfl rfl rfl ?_
  refine JL.nil ?_
  refine JE.then_normal ?_
  refine J.seq ?_
  first | apply J.cond_dec rfl | apply J.cond rfl
  case' ht =>
    intro h
    try (first | (exfalso; omega) | (cases h; done) | (exfalso; simp at h; done) | subst h)
    all_goals
      refine J.skip ?_
  case' hf =>
    intro h
    try (first | (exfalso; omega) | (cases h; done) | (exfalso; simp at h; done) | subst h)
    all_goals
      refine J.exit ?_
      refine JE.then_exit ?_
      refine JE.then_exit ?_
      refine JE.block_exit ?_
      refine JE.then_normal ?_
      refine J.seq ?_
      refine J.region ?_
      refine JL.step (y_assign rfl) rfl rfl rfl ?_
      refine JL.nil ?_
      refine JE.then_normal ?_
      refine J.ret ?_
      refine JE.ret1 (.inl rfl) rfl rfl (by (first | exact RV.tmp rfl | exact RV.cell1 hT rfl rfl rfl (by (exact Rd1.row (by (repeat (first | exact Pick.head | apply Pick.tail | apply Pick.app))) (by rfl))) | exact RV.cellN hT rfl rfl rfl (by (first | exact RdN.rowAll (by (repeat (first | exact Pick.head | apply Pick.tail | apply Pick.app))) | exact RdN.own (by (repeat (first | exact Pick.head | apply Pick.tail | apply Pick.app))))) (by (first | rfl | assumption | (simp; done) | omega)))) ?_
      first
      | (have zz : i < xs.length := hlt
         have ho : oddB x = true := by unfold oddB; simp; omega
         rw [oddI_at hb hh ho]
         exact ⟨rfl, fun w h => h⟩)
      | (obtain rfl : i = xs.length := by omega
         rw [oddI_none hb]
         exact ⟨rfl, fun w h => h⟩)
  all_goals refine JE.then_normal ?_
  all_goals
    refine J.seq ?_
    refine J.block ?_
    refine J.seq ?_
    refine J.region ?_
    refine JL.step (y_move rfl) rfl rfl rfl (JL.step (y_assign rfl) rfl rfl rfl ?_)
    refine JL.nil ?_
    refine JE.then_normal ?_
    refine J.seq ?_
    have hlt : i < xs.length := by omega
    obtain ⟨x, hh⟩ : ∃ x, xs[i]? = some x := ⟨xs[i]'(by omega), List.getElem?_eq_getElem _⟩
    refine J.region ?_
    refine JL.step (y_move rfl) rfl rfl rfl (JL.step (y_move rfl) rfl rfl rfl ?_)
    refine JL.step (y_ixS hT hB rfl rfl rfl rfl rfl hh) rfl rfl rfl ?_
    refine JL.step (y_lss rfl rfl) rfl rfl rfl (JL.step (y_move rfl) rfl rfl rfl ?_)
    all_goals (first | (refine JL.gsplit_dec rfl rfl rfl (fun h => ?_) (fun h => ?_) <;> try (first | (exfalso; omega) | exact absurd rfl h)) | (refine JL.gsplit rfl rfl rfl (fun h => ?_) (fun h => ?_) <;> try (first | cases h | (exfalso; simp at h; done))) | skip)
    all_goals (first | refine JL.gskip rfl rfl rfl rfl rfl rfl ?_ | refine JL.gskipU rfl rfl rfl rfl rfl ?_ | refine JL.gstep rfl rfl rfl (y_move rfl) rfl rfl ?_)
    all_goals (first | refine JL.gskip rfl rfl rfl rfl rfl rfl ?_ | refine JL.gskipU rfl rfl rfl rfl rfl ?_ | refine JL.gstep rfl rfl rfl (y_move rfl) rfl rfl ?_)
    all_goals (first | refine JL.gskip rfl rfl rfl rfl rfl rfl ?_ | refine JL.gskipU rfl rfl rfl rfl rfl ?_ | refine JL.gstep rfl rfl rfl (y_ixS hT hB rfl rfl rfl rfl rfl hh) rfl rfl ?_)
    all_goals (first | refine JL.gskip rfl rfl rfl rfl rfl rfl ?_ | refine JL.gskipU rfl rfl rfl rfl rfl ?_ | refine JL.gstep rfl rfl rfl (y_gtr rfl rfl) rfl rfl ?_)
    all_goals (refine JL.step (y_pick rfl rfl rfl) rfl rfl rfl ?_)
    all_goals refine JL.nil ?_
    all_goals refine JE.then_normal ?_
    all_goals
      first | apply J.cond_dec rfl | apply J.cond rfl
      case' ht =>
        intro h
        try (first | (exfalso; omega) | (cases h; done) | (exfalso; simp at h; done) | subst h)
        all_goals
          refine J.seq ?_
          refine J.region ?_
          refine JL.step (y_move rfl) rfl rfl rfl (JL.step (y_assign rfl) rfl rfl rfl ?_)
          refine JL.nil ?_
          refine JE.then_normal ?_
          refine J.ret ?_
          refine JE.block_ret ?_
          refine JE.then_ret ?_
          refine JE.then_ret ?_
          refine JE.block_ret ?_
          refine JE.then_ret ?_
          refine JE.ret1 (.inl rfl) rfl rfl (by (first | exact RV.tmp rfl | exact RV.cell1 hT rfl rfl rfl (by (exact Rd1.row (by (repeat (first | exact Pick.head | apply Pick.tail | apply Pick.app))) (by rfl))) | exact RV.cellN hT rfl rfl rfl (by (first | exact RdN.rowAll (by (repeat (first | exact Pick.head | apply Pick.tail | apply Pick.app))) | exact RdN.own (by (repeat (first | exact Pick.head | apply Pick.tail | apply Pick.app))))) (by (first | rfl | assumption | (simp; done) | omega)))) ?_
          first
          | (have zz : i < xs.length := hlt
             have ho : oddB x = true := by unfold oddB; simp; omega
             rw [oddI_at hb hh ho]
             exact ⟨rfl, fun w h => h⟩)
          | (obtain rfl : i = xs.length := by omega
             rw [oddI_none hb]
             exact ⟨rfl, fun w h => h⟩)
      case' hf =>
        intro h
        try (first | (exfalso; omega) | (cases h; done) | (exfalso; simp at h; done) | subst h)
        all_goals
          refine J.skip ?_
    all_goals refine JE.block_normal ?_
    all_goals refine JE.then_normal ?_
    all_goals
      refine J.region ?_
      refine JL.step (y_add rfl rfl (by (first | exact wrap_i64 (by omega) (by omega) | rfl))) rfl rfl rfl ?_
      refine JL.step (y_move rfl) rfl rfl rfl ?_
      refine JL.nil ?_
  all_goals
    have ho : oddB x = false := by unfold oddB; simp; omega
    exact JE.round (s := i) (i + 1) ⟨by omega, fun j y hj hy => by
      rcases Nat.lt_or_ge j i with q | q
      · exact hb j y q hy
      · obtain rfl : j = i := by omega
        rw [hh] at hy
        cases hy
        exact ho⟩ ⟨rfl, rfl, rfl, trivial⟩ (fun w h => h) (by omega)
theorem text_spec (xs : List Int) (l : List HProp) (hB : Bys xs) (hl : xs.length ≤ 1000000) : Fc prog E 27 [.string (strOf xs)].toArray l (fun v l' => v = .bool (textB xs) ∧ l' = l) := by
  refine Fc.eqs ?_
  obtain ⟨b, hb⟩ : ∃ b, b = decide (xs ≠ []) := ⟨_, rfl⟩
  refine Fc.of_body (c := ?codeC) Tryz.func27 ?hb Tryz.ntmps27 ?hl ?_
  case hb => exact rfl
  case hl => exact rfl
  refine J.seq ?_
  refine J.region ?_
  refine JL.step (y_assign rfl) rfl rfl rfl ?_
  refine JL.nil ?_
  refine JE.then_normal ?_
  refine J.seq ?_
  refine J.region ?_
  refine JL.step (y_move rfl) rfl rfl rfl ?_
  refine JL.step (y_neS (ys := []) (b := b) hB Bys.nil rfl (by unfold strOf; rfl) hb) rfl rfl rfl ?_
  refine JL.step (y_move rfl) rfl rfl rfl ?_
  all_goals (first | (refine JL.gsplit_dec rfl rfl rfl (fun h => ?_) (fun h => ?_) <;> try (first | (exfalso; omega) | exact absurd rfl h)) | (refine JL.gsplit rfl rfl rfl (fun h => ?_) (fun h => ?_) <;> try (first | cases h | (exfalso; simp at h; done))) | skip)
  all_goals (first | refine JL.gskip rfl rfl rfl rfl rfl rfl ?_ | refine JL.gskipU rfl rfl rfl rfl rfl ?_ | refine JL.gstep rfl rfl rfl (y_move rfl) rfl rfl ?_)
  all_goals (first | refine JL.gskip rfl rfl rfl rfl rfl rfl ?_ | refine JL.gskipU rfl rfl rfl rfl rfl ?_ | refine JL.gstep rfl rfl rfl (y_lenS hT rfl rfl rfl) rfl rfl ?_)
  all_goals (first | refine JL.gskip rfl rfl rfl rfl rfl rfl ?_ | refine JL.gskipU rfl rfl rfl rfl rfl ?_ | refine JL.gstep rfl rfl rfl (y_leq rfl rfl) rfl rfl ?_)
  all_goals (refine JL.step (y_pick rfl rfl rfl) rfl rfl rfl ?_)
  all_goals (refine JL.step (y_move rfl) rfl rfl rfl ?_)
  all_goals (first | (refine JL.gsplit_dec rfl rfl rfl (fun h => ?_) (fun h => ?_) <;> try (first | (exfalso; omega) | exact absurd rfl h)) | (refine JL.gsplit rfl rfl rfl (fun h => ?_) (fun h => ?_) <;> try (first | cases h | (exfalso; simp at h; done))) | skip)
  all_goals (first | refine JL.gskip rfl rfl rfl rfl rfl rfl ?_ | refine JL.gskipU rfl rfl rfl rfl rfl ?_ | refine JL.gstep rfl rfl rfl (y_move rfl) rfl rfl ?_)
  all_goals (first | refine JL.gskip rfl rfl rfl rfl rfl rfl ?_ | refine JL.gskipU rfl rfl rfl rfl rfl ?_ | (refine JL.gloud rfl rfl rfl (l_callF e56 rfl rfl (odd_spec E xs _ hB hl) ?_); rintro _ _ ⟨rfl, rfl⟩))
  all_goals (first | refine JL.gskip rfl rfl rfl rfl rfl rfl ?_ | refine JL.gskipU rfl rfl rfl rfl rfl ?_ | refine JL.gstep rfl rfl rfl (y_lss rfl rfl) rfl rfl ?_)
  all_goals (refine JL.step (y_pick rfl rfl rfl) rfl rfl rfl ?_)
  all_goals (refine JL.step (y_assign rfl) rfl rfl rfl ?_)
  all_goals refine JL.nil ?_
  all_goals refine JE.then_normal ?_
  all_goals
    refine J.ret ?_
    refine JE.ret1 (.inl rfl) rfl rfl (by (first | exact RV.tmp rfl | exact RV.cell1 hT rfl rfl rfl (by (exact Rd1.row (by (repeat (first | exact Pick.head | apply Pick.tail | apply Pick.app))) (by rfl))) | exact RV.cellN hT rfl rfl rfl (by (first | exact RdN.rowAll (by (repeat (first | exact Pick.head | apply Pick.tail | apply Pick.app))) | exact RdN.own (by (repeat (first | exact Pick.head | apply Pick.tail | apply Pick.app))))) (by (first | rfl | assumption | (simp; done) | omega)))) ?_
    refine ⟨?_, fun w h => h⟩
    unfold textB
    rw [← hb]
    first | (simp_all; done) | (simp_all; omega) | (simp_all; intro _; omega)
theorem name_spec (xs : List Int) (l : List HProp) (hB : Bys xs) (hl : xs.length ≤ 1000000) : Fc prog E 64 [.string (strOf xs)].toArray l (fun v l' => v = .bool (nameB xs) ∧ l' = l) := by
  refine Fc.eqs ?_
  obtain ⟨b, hbb⟩ : ∃ b, b = decide (xs ≠ []) := ⟨_, rfl⟩
  refine Fc.of_body (c := ?codeC) Tryz.func64 ?hb Tryz.ntmps64 ?hl ?_
  case hb => exact rfl
  case hl => exact rfl
  refine J.seq ?_
  refine J.region ?_
  refine JL.step (y_assign rfl) rfl rfl rfl ?_
  refine JL.nil ?_
  refine JE.then_normal ?_
  refine J.seq ?_
  refine J.seq ?_
  refine J.region ?_
  refine JL.step (y_move rfl) rfl rfl rfl ?_
  refine JL.loud rfl (l_range hT rfl rfl rfl rfl (fun bi => ?_))
  refine JL.nil ?_
  refine JE.then_normal ?_
  refine J.block ?_
  refine J.loop (α := Nat) (fun i => i ≤ xs.length ∧ ∀ (j : Nat) y, j < i → xs[j]? = some y → nmB y = true) (fun i => [(0, .string (strOf xs)), (6, .pointer (some ⟨bi, 0, none⟩))]) (fun i => blk bi (.stringIter (strOf xs) i) :: l) (fun i => xs.length - i) 0 ⟨Nat.zero_le _, by omega⟩ ⟨rfl, rfl, trivial⟩ (fun w h => h) ?_
  rintro i ⟨hi, hb⟩
  try dsimp only
  refine J.seq ?_
  refine J.region ?_
  refine JL.loud rfl (l_nextC hB rfl (by (repeat (first | exact Pick.head | apply Pick.tail | apply Pick.app))) rfl (fun hge => ?_) (fun c z q hc hz => ?_))
  all_goals (refine JL.step (y_extract rfl rfl) rfl rfl rfl ?_)
  all_goals refine JL.nil ?_
  all_goals refine JE.then_normal ?_
  all_goals
    refine J.seq ?_
    first | apply J.cond_dec rfl | apply J.cond rfl
    case' ht =>
      intro h
      try (first | (exfalso; omega) | (cases h; done) | (exfalso; simp at h; done) | subst h)
      all_goals
        refine J.skip ?_
    case' hf =>
      intro h
      try (first | (exfalso; omega) | (cases h; done) | (exfalso; simp at h; done) | subst h)
      all_goals
        refine J.exit ?_
        refine JE.then_exit ?_
        refine JE.then_exit ?_
        refine JE.block_exit ?_
        refine JE.then_normal ?_
        refine J.seq ?_
        refine J.region ?_
        refine JL.step (y_move rfl) rfl rfl rfl ?_
        refine JL.step (y_neS (ys := []) (b := b) hB Bys.nil rfl (by unfold strOf; rfl) hbb) rfl rfl rfl ?_
        refine JL.step (y_move rfl) rfl rfl rfl ?_
        all_goals (first | (refine JL.gsplit_dec rfl rfl rfl (fun h => ?_) (fun h => ?_) <;> try (first | (exfalso; omega) | exact absurd rfl h)) | (refine JL.gsplit rfl rfl rfl (fun h => ?_) (fun h => ?_) <;> try (first | cases h | (exfalso; simp at h; done))) | skip)
        all_goals (first | refine JL.gskip rfl rfl rfl rfl rfl rfl ?_ | refine JL.gskipU rfl rfl rfl rfl rfl ?_ | refine JL.gstep rfl rfl rfl (y_move rfl) rfl rfl ?_)
        all_goals (first | refine JL.gskip rfl rfl rfl rfl rfl rfl ?_ | refine JL.gskipU rfl rfl rfl rfl rfl ?_ | refine JL.gstep rfl rfl rfl (y_lenS hT rfl rfl rfl) rfl rfl ?_)
        all_goals (first | refine JL.gskip rfl rfl rfl rfl rfl rfl ?_ | refine JL.gskipU rfl rfl rfl rfl rfl ?_ | refine JL.gstep rfl rfl rfl (y_leq rfl rfl) rfl rfl ?_)
        all_goals (refine JL.step (y_pick rfl rfl rfl) rfl rfl rfl ?_)
        all_goals (refine JL.step (y_assign rfl) rfl rfl rfl ?_)
        all_goals refine JL.nil ?_
        all_goals refine JE.then_normal ?_
        all_goals
          refine J.ret ?_
          refine JE.ret1 (.inl rfl) rfl rfl (by (first | exact RV.tmp rfl | exact RV.cell1 hT rfl rfl rfl (by (exact Rd1.row (by (repeat (first | exact Pick.head | apply Pick.tail | apply Pick.app))) (by rfl))) | exact RV.cellN hT rfl rfl rfl (by (first | exact RdN.rowAll (by (repeat (first | exact Pick.head | apply Pick.tail | apply Pick.app))) | exact RdN.own (by (repeat (first | exact Pick.head | apply Pick.tail | apply Pick.app))))) (by (first | rfl | assumption | (simp; done) | omega)))) ?_
          first
          | (have hn : nmB c = false := by
               unfold nmB
               simp
               first | omega | (have := of_decide_eq_false (h45.symm.trans h); omega) | (have := of_decide_eq_false h45.symm; omega)
             rw [nmB_bad hc hn]
             exact ⟨rfl, fun w h => h.sup (by (repeat (first | exact Sup.refl | apply Sup.cons (by (repeat (first | exact Pick.head | apply Pick.tail | apply Pick.app))) | apply Sup.app | apply Sup.skip | apply Sup.skips)))⟩)
          | (obtain rfl : i = xs.length := by omega
             have ha := nmB_all hb
             unfold nameB
             rw [ha, ← hbb]
             refine ⟨?_, fun w h => h.sup (by (repeat (first | exact Sup.refl | apply Sup.cons (by (repeat (first | exact Pick.head | apply Pick.tail | apply Pick.app))) | apply Sup.app | apply Sup.skip | apply Sup.skips)))⟩
             first
             | rfl
             | show Value.bool (decide ((xs.length : Int) ≤ 16)) = Value.bool (decide (xs.length ≤ 16))
               congr 2
               simp only [eq_iff_iff]
               omega)
    all_goals refine JE.then_normal ?_
    all_goals
      refine J.block ?_
      refine J.seq ?_
      refine J.region ?_
      refine JL.step (y_extract rfl rfl) rfl rfl rfl (JL.step (y_assign rfl) rfl rfl rfl ?_)
      refine JL.nil ?_
      refine JE.then_normal ?_
      refine J.block ?_
      refine J.seq ?_
      refine J.seq ?_
      refine J.region ?_
      refine JL.step (y_move rfl) rfl rfl rfl (JL.step (y_geq rfl rfl) rfl rfl rfl (JL.step (y_move rfl) rfl rfl rfl ?_))
      all_goals (first | (refine JL.gsplit_dec rfl rfl rfl (fun h => ?_) (fun h => ?_) <;> try (first | (exfalso; omega) | exact absurd rfl h)) | (refine JL.gsplit rfl rfl rfl (fun h => ?_) (fun h => ?_) <;> try (first | cases h | (exfalso; simp at h; done))) | skip)
      all_goals (first | refine JL.gskip rfl rfl rfl rfl rfl rfl ?_ | refine JL.gskipU rfl rfl rfl rfl rfl ?_ | refine JL.gstep rfl rfl rfl (y_move rfl) rfl rfl ?_)
      all_goals (first | refine JL.gskip rfl rfl rfl rfl rfl rfl ?_ | refine JL.gskipU rfl rfl rfl rfl rfl ?_ | refine JL.gstep rfl rfl rfl (y_leq rfl rfl) rfl rfl ?_)
      all_goals (refine JL.step (y_pick rfl rfl rfl) rfl rfl rfl ?_)
      all_goals (refine JL.step (y_assign rfl) rfl rfl rfl ?_)
      all_goals refine JL.nil ?_
      all_goals refine JE.then_normal ?_
      all_goals
        first | apply J.cond_dec rfl | apply J.cond rfl
        case' ht =>
          intro h
          try (first | (exfalso; omega) | (cases h; done) | (exfalso; simp at h; done) | subst h)
          all_goals
            refine J.skip ?_
        case' hf =>
          intro h
          try (first | (exfalso; omega) | (cases h; done) | (exfalso; simp at h; done) | subst h)
          all_goals
            refine J.seq ?_
            refine J.region ?_
            refine JL.step (y_move rfl) rfl rfl rfl (JL.step (y_geq rfl rfl) rfl rfl rfl (JL.step (y_move rfl) rfl rfl rfl ?_))
            all_goals (first | (refine JL.gsplit_dec rfl rfl rfl (fun h => ?_) (fun h => ?_) <;> try (first | (exfalso; omega) | exact absurd rfl h)) | (refine JL.gsplit rfl rfl rfl (fun h => ?_) (fun h => ?_) <;> try (first | cases h | (exfalso; simp at h; done))) | skip)
            all_goals (first | refine JL.gskip rfl rfl rfl rfl rfl rfl ?_ | refine JL.gskipU rfl rfl rfl rfl rfl ?_ | refine JL.gstep rfl rfl rfl (y_move rfl) rfl rfl ?_)
            all_goals (first | refine JL.gskip rfl rfl rfl rfl rfl rfl ?_ | refine JL.gskipU rfl rfl rfl rfl rfl ?_ | refine JL.gstep rfl rfl rfl (y_leq rfl rfl) rfl rfl ?_)
            all_goals (refine JL.step (y_pick rfl rfl rfl) rfl rfl rfl ?_)
            all_goals (refine JL.step (y_assign rfl) rfl rfl rfl ?_)
            all_goals refine JL.nil ?_
            all_goals refine JE.then_normal ?_
            all_goals
              first | apply J.cond_dec rfl | apply J.cond rfl
              case' ht =>
                intro h
                try (first | (exfalso; omega) | (cases h; done) | (exfalso; simp at h; done) | subst h)
                all_goals
                  refine J.skip ?_
              case' hf =>
                intro h
                try (first | (exfalso; omega) | (cases h; done) | (exfalso; simp at h; done) | subst h)
                all_goals
                  obtain ⟨b45, h45⟩ : ∃ b, b = decide (z = 45) := ⟨_, rfl⟩
                  refine J.region ?_
                  refine JL.step (y_move rfl) rfl rfl rfl ?_
                  refine JL.step (y_eqlB rfl rfl h45.symm) rfl rfl rfl ?_
                  refine JL.step (y_assign rfl) rfl rfl rfl ?_
                  refine JL.nil ?_
      all_goals refine JE.then_normal ?_
      all_goals
        first | apply J.cond_dec rfl | apply J.cond rfl
        case' ht =>
          intro h
          try (first | (exfalso; omega) | (cases h; done) | (exfalso; simp at h; done) | subst h)
          all_goals
            refine J.skip ?_
        case' hf =>
          intro h
          try (first | (exfalso; omega) | (cases h; done) | (exfalso; simp at h; done) | subst h)
          all_goals
            refine J.seq ?_
            refine J.region ?_
            refine JL.step (y_assign rfl) rfl rfl rfl ?_
            refine JL.nil ?_
            refine JE.then_normal ?_
            refine J.ret ?_
            refine JE.block_ret ?_
            refine JE.block_ret ?_
            refine JE.then_ret ?_
            refine JE.block_ret ?_
            refine JE.then_ret ?_
            refine JE.ret1 (.inl rfl) rfl rfl (by (first | exact RV.tmp rfl | exact RV.cell1 hT rfl rfl rfl (by (exact Rd1.row (by (repeat (first | exact Pick.head | apply Pick.tail | apply Pick.app))) (by rfl))) | exact RV.cellN hT rfl rfl rfl (by (first | exact RdN.rowAll (by (repeat (first | exact Pick.head | apply Pick.tail | apply Pick.app))) | exact RdN.own (by (repeat (first | exact Pick.head | apply Pick.tail | apply Pick.app))))) (by (first | rfl | assumption | (simp; done) | omega)))) ?_
            first
            | (have hn : nmB c = false := by
                 unfold nmB
                 simp
                 first | omega | (have := of_decide_eq_false (h45.symm.trans h); omega) | (have := of_decide_eq_false h45.symm; omega)
               rw [nmB_bad hc hn]
               exact ⟨rfl, fun w h => h.sup (by (repeat (first | exact Sup.refl | apply Sup.cons (by (repeat (first | exact Pick.head | apply Pick.tail | apply Pick.app))) | apply Sup.app | apply Sup.skip | apply Sup.skips)))⟩)
            | (obtain rfl : i = xs.length := by omega
               have ha := nmB_all hb
               unfold nameB
               rw [ha, ← hbb]
               refine ⟨?_, fun w h => h.sup (by (repeat (first | exact Sup.refl | apply Sup.cons (by (repeat (first | exact Pick.head | apply Pick.tail | apply Pick.app))) | apply Sup.app | apply Sup.skip | apply Sup.skips)))⟩
               first
               | rfl
               | show Value.bool (decide ((xs.length : Int) ≤ 16)) = Value.bool (decide (xs.length ≤ 16))
                 congr 2
                 simp only [eq_iff_iff]
                 omega)
      all_goals refine JE.block_normal ?_
      all_goals refine JE.block_normal ?_
  all_goals
    obtain ⟨rfl, rfl, hc1⟩ : c = z ∧ q = i + 1 ∧ nmB z = true := by
      have hn : nmB z = true := by
        unfold nmB
        simp
        first | omega | (have := of_decide_eq_true (h45.symm.trans h); omega) | (have := of_decide_eq_true h45.symm; omega)
      unfold nmB at hn
      simp at hn
      rcases hz with ⟨_, _, rfl, rfl⟩ | ⟨_, _, _⟩
      · exact ⟨rfl, rfl, by unfold nmB; simp; omega⟩
      · omega
    have hlt := (List.getElem?_eq_some_iff.1 hc).1
    exact JE.round (s := i) (i + 1) ⟨by omega, fun j y hj hy => by
      rcases Nat.lt_or_ge j i with q | q
      · exact hb j y q hy
      · obtain rfl : j = i := by omega
        rw [hc] at hy
        cases hy
        exact hc1⟩ ⟨rfl, rfl, trivial⟩ (fun w h => h) (by omega)
end
end
section
open Go Go.SL
section
def valD (xs : List Int) : Nat := xs.foldl (fun n x => n * 10 + (x - 48).toNat) 0
theorem valD_snoc (xs : List Int) (x : Int) : valD (xs ++ [x]) = valD xs * 10 + (x - 48).toNat := by unfold valD; rw [List.foldl_append]; rfl
theorem valD_dig : ∀ (u : Nat), valD (dig u) = u := by
  intro u
  induction u using Nat.strongRecOn with
  | _ u ih =>
    rcases dig_step u with ⟨h, e⟩ | ⟨h, e⟩
    · rw [e]; show 0 * 10 + ((48 + (u : Int)) - 48).toNat = u; omega
    · rw [e, valD_snoc, ih (u / 10) (by omega)]
      omega
def numB (xs : List Int) : Bool := decide (xs = dig (valD xs)) && decide (xs.length ≤ 9)
theorem numB_iff {xs : List Int} : numB xs = true ↔ xs = dig (valD xs) ∧ xs.length ≤ 9 := by unfold numB; simp
theorem numB_dig {u : Nat} (h : u ≤ 999999999) : numB (dig u) = true := numB_iff.2 ⟨by rw [valD_dig], dig_le (by omega) (by decide)⟩
theorem numB_lt {xs : List Int} (h : numB xs = true) : valD xs ≤ 999999999 := by
  obtain ⟨h1, h2⟩ := numB_iff.1 h
  rw [h1] at h2
  have := dig_lt h2
  omega
theorem numB_atoi {xs : List Int} (h : numB xs = true) : Lib.atoiAll (strOf xs).data.toList = .ok (valD xs : Int) := by
  have h1 := (numB_iff.1 h).1
  have h2 := numB_lt h
  have h3 := atoi_dig (u := valD xs) (by omega)
  rwa [← h1] at h3
end
section
attribute [local irreducible] J JL JE JM LS Y Fc RV Code.wp wpList Code.wpIn wpListIn
attribute [local irreducible] Yc strOf dig valD
variable (E : World)
theorem number_spec (xs : List Int) (l : List HProp) (hB : Bys xs) (hl : xs.length ≤ 1000000) (hk : K24 E l) :
    Fc prog E 69 [.string (strOf xs)].toArray l (fun v l' => ∃ z, v = .tuple #[.int .i64 z, .bool (numB xs)] ∧ (numB xs = true → z = valD xs) ∧ l' = l) := by
  refine Fc.post ?_
  refine Fc.of_body (c := ?codeC) Tryz.func69 ?hb Tryz.ntmps69 ?hl ?_
  case hb => exact rfl
  case hl => exact rfl
  refine J.seq ?_
  refine J.region ?_
  refine JL.step (y_assign rfl) rfl rfl rfl (JL.step (y_assign rfl) rfl rfl rfl ?_)
  refine JL.nil ?_
  refine JE.then_normal ?_
  refine J.seq ?_
  refine J.region ?_
  refine JL.step (y_move rfl) rfl rfl rfl ?_
  refine JL.loud rfl (l_callF e87 rfl rfl (atoi_spec E xs _ hl hk) ?_)
  rintro _ _ ⟨z, e, rfl, hz, he, rfl⟩
  refine JL.step (y_move rfl) rfl rfl rfl (JL.step (y_extract rfl rfl) rfl rfl rfl (JL.step (y_extract rfl rfl) rfl rfl rfl (JL.step (y_assign rfl) rfl rfl rfl (JL.step (y_assign rfl) rfl rfl rfl ?_))))
  refine JL.nil ?_
  refine JE.then_normal ?_
  refine J.seq ?_
  obtain ⟨bn, hbn⟩ : ∃ bn, numB xs = bn := ⟨_, rfl⟩
  rw [hbn]
  obtain ⟨b, hb⟩ : ∃ b, b = decide (numT z = xs) := ⟨_, rfl⟩
  have hyes : bn = true → e = .nilIface ∧ z = valD xs := by
    intro q
    have h1 := numB_atoi (hbn.trans q)
    rcases he with ⟨h2, h3⟩ | ⟨_, h3⟩
    · rw [h1] at h3
      cases h3
      exact ⟨h2, rfl⟩
    · exact absurd h1 (h3 _)
  obtain ⟨be, hbe⟩ : ∃ be, (be = true ∧ e = .nilIface) ∨ (be = false ∧ ∃ te pe, e = .iface te pe) := by
    rcases he with ⟨q, _⟩ | ⟨q, _⟩
    · exact ⟨true, .inl ⟨rfl, q⟩⟩
    · exact ⟨false, .inr ⟨rfl, q⟩⟩
  refine J.region ?_
  refine JL.step (y_move rfl) rfl rfl rfl (JL.step (y_move rfl) rfl rfl rfl ?_)
  refine JL.step (y_ifnil Tryz.underlying97 rfl hbe) rfl rfl rfl ?_
  refine JL.step (y_move rfl) rfl rfl rfl ?_
  all_goals (first | (refine JL.gsplit_dec rfl rfl rfl (fun h => ?_) (fun h => ?_) <;> try (first | (exfalso; omega) | exact absurd rfl h)) | (refine JL.gsplit rfl rfl rfl (fun h => ?_) (fun h => ?_) <;> try (first | cases h | (exfalso; simp at h; done))) | skip)
  all_goals (first | refine JL.gskip rfl rfl rfl rfl rfl rfl ?_ | refine JL.gskipU rfl rfl rfl rfl rfl ?_ | refine JL.gstep rfl rfl rfl (y_move rfl) rfl rfl ?_)
  all_goals (first | refine JL.gskip rfl rfl rfl rfl rfl rfl ?_ | refine JL.gskipU rfl rfl rfl rfl rfl ?_ | refine JL.gstep rfl rfl rfl (y_geq rfl rfl) rfl rfl ?_)
  all_goals (refine JL.step (y_pick rfl rfl rfl) rfl rfl rfl ?_)
  all_goals (refine JL.step (y_move rfl) rfl rfl rfl ?_)
  all_goals (first | (refine JL.gsplit_dec rfl rfl rfl (fun h => ?_) (fun h => ?_) <;> try (first | (exfalso; omega) | exact absurd rfl h)) | (refine JL.gsplit rfl rfl rfl (fun h => ?_) (fun h => ?_) <;> try (first | cases h | (exfalso; simp at h; done))) | skip)
  all_goals (first | refine JL.gskip rfl rfl rfl rfl rfl rfl ?_ | refine JL.gskipU rfl rfl rfl rfl rfl ?_ | refine JL.gstep rfl rfl rfl (y_move rfl) rfl rfl ?_)
  all_goals (first | refine JL.gskip rfl rfl rfl rfl rfl rfl ?_ | refine JL.gskipU rfl rfl rfl rfl rfl ?_ | refine JL.gstep rfl rfl rfl (y_lenS hT rfl rfl rfl) rfl rfl ?_)
  all_goals (first | refine JL.gskip rfl rfl rfl rfl rfl rfl ?_ | refine JL.gskipU rfl rfl rfl rfl rfl ?_ | refine JL.gstep rfl rfl rfl (y_leq rfl rfl) rfl rfl ?_)
  all_goals (refine JL.step (y_pick rfl rfl rfl) rfl rfl rfl ?_)
  all_goals (refine JL.step (y_move rfl) rfl rfl rfl ?_)
  all_goals (first | (refine JL.gsplit_dec rfl rfl rfl (fun h => ?_) (fun h => ?_) <;> try (first | (exfalso; omega) | exact absurd rfl h)) | (refine JL.gsplit rfl rfl rfl (fun h => ?_) (fun h => ?_) <;> try (first | cases h | (exfalso; simp at h; done))) | skip)
  all_goals (first | refine JL.gskip rfl rfl rfl rfl rfl rfl ?_ | refine JL.gskipU rfl rfl rfl rfl rfl ?_ | refine JL.gstep rfl rfl rfl (y_move rfl) rfl rfl ?_)
  all_goals (first | refine JL.gskip rfl rfl rfl rfl rfl rfl ?_ | refine JL.gskipU rfl rfl rfl rfl rfl ?_ | (refine JL.gloud rfl rfl rfl (l_callF e74 rfl rfl (itoa_spec E z _ hz.1 hz.2 hk) ?_); rintro _ _ ⟨rfl, rfl⟩))
  all_goals (first | refine JL.gskip rfl rfl rfl rfl rfl rfl ?_ | refine JL.gskipU rfl rfl rfl rfl rfl ?_ | refine JL.gstep rfl rfl rfl (y_move rfl) rfl rfl ?_)
  all_goals (first | refine JL.gskip rfl rfl rfl rfl rfl rfl ?_ | refine JL.gskipU rfl rfl rfl rfl rfl ?_ | refine JL.gstep rfl rfl rfl (y_eqS (b := b) (numT_bys z) hB rfl rfl hb) rfl rfl ?_)
  all_goals (refine JL.step (y_pick rfl rfl rfl) rfl rfl rfl ?_)
  all_goals (refine JL.step (y_assign rfl) rfl rfl rfl ?_)
  all_goals (refine JL.step (y_assign rfl) rfl rfl rfl ?_)
  all_goals refine JL.nil ?_
  all_goals refine JE.then_normal ?_
  all_goals
    refine J.ret ?_
    refine JE.ret2 (.inl rfl) rfl rfl (by (first | exact RV.tmp rfl | exact RV.cell1 hT rfl rfl rfl (by (exact Rd1.row (by (repeat (first | exact Pick.head | apply Pick.tail | apply Pick.app))) (by rfl))) | exact RV.cellN hT rfl rfl rfl (by (first | exact RdN.rowAll (by (repeat (first | exact Pick.head | apply Pick.tail | apply Pick.app))) | exact RdN.own (by (repeat (first | exact Pick.head | apply Pick.tail | apply Pick.app))))) (by (first | rfl | assumption | (simp; done) | omega)))) (by (first | exact RV.tmp rfl | exact RV.cell1 hT rfl rfl rfl (by (exact Rd1.row (by (repeat (first | exact Pick.head | apply Pick.tail | apply Pick.app))) (by rfl))) | exact RV.cellN hT rfl rfl rfl (by (first | exact RdN.rowAll (by (repeat (first | exact Pick.head | apply Pick.tail | apply Pick.app))) | exact RdN.own (by (repeat (first | exact Pick.head | apply Pick.tail | apply Pick.app))))) (by (first | rfl | assumption | (simp; done) | omega)))) ?_
    first
    | (have hb0 : bn = false := by
         rw [Bool.eq_false_iff]
         intro q
         obtain ⟨h1, h2⟩ := hyes q
         have h9 := (numB_iff.1 (hbn.trans q)).2
         first
         | omega
         | (rcases hbe with ⟨x, _⟩ | ⟨_, te, pe, h3⟩
            · cases x
            · rw [h1] at h3; cases h3)
       subst hb0
       exact ⟨_, fun w h => h, z, rfl, fun q => (by cases q), rfl⟩)
    | (have hbb : b = bn := by
         rw [Bool.eq_iff_iff]
         constructor
         · intro q
           rw [hb] at q
           have q := of_decide_eq_true q
           rw [← hbn, numB_iff]
           have e1 : xs = dig z.toNat := by rw [← q]; unfold numT; rw [if_neg (by omega)]
           exact ⟨by rw [e1, valD_dig], by omega⟩
         · intro q
           rw [hb]
           apply decide_eq_true
           obtain ⟨_, h2⟩ := hyes q
           rw [h2, numT_nat]
           exact (numB_iff.1 (hbn.trans q)).1.symm
       subst hbb
       exact ⟨_, fun w h => h, z, rfl, fun q => (hyes q).2, rfl⟩)
end
end
section
open Go Go.SL
section
def hexS : List Int := [48, 49, 50, 51, 52, 53, 54, 55, 56, 57, 97, 98, 99, 100, 101, 102]
theorem hexS_bys : Bys hexS := Bys.all rfl
/-- A digit's number; less than nought: it is none. -/
def hexV (c : Int) : Int := if 48 ≤ c ∧ c ≤ 57 then c - 48 else if 97 ≤ c ∧ c ≤ 102 then c - 87 else -1
theorem hexV_le (c : Int) : -1 ≤ hexV c ∧ hexV c ≤ 15 := by
  unfold hexV
  split
  · omega
  · split <;> omega
theorem hexV_high {c : Int} (h : 103 ≤ c) : hexV c = -1 := by unfold hexV; rw [if_neg (by omega), if_neg (by omega)]
theorem hexV_idx : ∀ c : Fin 128, Lib.indexByte (hexS.map fun n => UInt8.ofNat n.toNat) (UInt8.ofNat c.val) = hexV c.val := by decide +kernel
theorem hex_low {c : Int} (h0 : 0 ≤ c) (h1 : c < 128) : Lib.indexByte (strOf hexS).data.toList (UInt8.ofNat c.toNat) = hexV c := by
  rw [strOf_data]
  have := hexV_idx ⟨c.toNat, by omega⟩
  simp only at this
  rw [this]
  congr 1
  omega
theorem idx_none {l : List UInt8} {c : UInt8} (h : c ∉ l) : Lib.indexByte l c = -1 := by
  induction l with
  | nil => rfl
  | cons b l ih =>
    unfold Lib.indexByte
    rw [ih fun q => h (List.mem_cons_of_mem _ q), if_neg (by
      intro q
      rw [beq_iff_eq] at q
      exact h (q ▸ List.mem_cons_self ..)), if_pos (by decide)]
/-- A byte that is no digit's is in no part of the digits. -/
theorem hex_high {c : Int} (h0 : 128 ≤ c) (h1 : c ≤ 255) (k : Nat) : Lib.indexByte (strOf (hexS.drop k)).data.toList (UInt8.ofNat c.toNat) = -1 := by
  rw [strOf_data]
  apply idx_none
  intro q
  obtain ⟨x, hx, he⟩ := List.mem_map.1 q
  have hx := List.mem_of_mem_drop hx
  have hx2 : 48 ≤ x ∧ x ≤ 102 := by
    have : ∀ y ∈ hexS, 48 ≤ y ∧ y ≤ 102 := by decide
    exact this x hx
  have h := congrArg UInt8.toNat he
  rw [UInt8.toNat_ofNat_of_lt' (by show x.toNat < 256; omega), UInt8.toNat_ofNat_of_lt' (by show c.toNat < 256; omega)] at h
  omega
theorem encode_high {r : Int} (h : 128 ≤ r) : ∃ bs, Utf8.encode r = strOf bs ∧ Bys bs ∧ 2 ≤ bs.length ∧ bs.length ≤ 4 ∧ ∃ z, bs[bs.length - 1]? = some z ∧ 128 ≤ z := by
  have hc : ∃ c : Nat, (if Utf8.valid r = true then r.toNat else Utf8.runeError) = c ∧ 128 ≤ c ∧ c ≤ 0x10FFFF := by
    refine ⟨_, rfl, ?_⟩
    split
    · rename_i q
      unfold Utf8.valid at q
      simp at q
      omega
    · decide
  obtain ⟨c, hc, h1, h2⟩ := hc
  unfold Utf8.encode
  simp only [hc]
  rw [if_neg (by omega)]
  by_cases h3 : c < 0x800
  · rw [if_pos h3]
    refine ⟨[((0xC0 + c / 64 : Nat) : Int), ((0x80 + c % 64 : Nat) : Int)], rfl, ?_, by simp, by simp, _, rfl, by omega⟩
    intro x hx
    simp only [List.mem_cons, List.not_mem_nil, or_false] at hx
    rcases hx with rfl | rfl <;> omega
  · rw [if_neg h3]
    by_cases h4 : c < 0x10000
    · rw [if_pos h4]
      refine ⟨[((0xE0 + c / 4096 : Nat) : Int), ((0x80 + c / 64 % 64 : Nat) : Int), ((0x80 + c % 64 : Nat) : Int)], rfl, ?_, by simp, by simp, _, rfl, by omega⟩
      intro x hx
      simp only [List.mem_cons, List.not_mem_nil, or_false] at hx
      rcases hx with rfl | rfl | rfl <;> omega
    · rw [if_neg h4]
      refine ⟨[((0xF0 + c / 262144 : Nat) : Int), ((0x80 + c / 4096 % 64 : Nat) : Int), ((0x80 + c / 64 % 64 : Nat) : Int), ((0x80 + c % 64 : Nat) : Int)], rfl, ?_, by simp, by simp, _, rfl, by omega⟩
      intro x hx
      simp only [List.mem_cons, List.not_mem_nil, or_false] at hx
      rcases hx with rfl | rfl | rfl | rfl <;> omega
/-- A key's byte when i digits are read: high digit first; and as the document has it, pushed up. -/
def kc (xs : List Int) (i j : Nat) : Int := (if 2 * j < i then hexV (xs.getD (2 * j) 48) * 16 else 0) + (if 2 * j + 1 < i then hexV (xs.getD (2 * j + 1) 48) else 0)
def kst (xs : List Int) (i : Nat) : List Int := (List.range 32).map (kc xs i)
def keyB (xs : List Int) : Bool := decide (xs.length = 64) && xs.all fun x => decide (0 ≤ hexV x)
def keyV (xs : List Int) : List Int := kst xs 64
def zer32 : List Int := List.replicate 32 0
theorem kst_length (xs : List Int) (i : Nat) : (kst xs i).length = 32 := by simp [kst]
theorem kst_zero (xs : List Int) : kst xs 0 = zer32 := by unfold kst kc; simp; rfl
theorem map_set {f g : Nat → Int} {n j : Nat} {v : Int} (h1 : ∀ k, k < n → k ≠ j → f k = g k) (h2 : j < n → f j = v) : (List.range n).map f = ((List.range n).map g).set j v := by
  apply List.ext_getElem
  · simp
  · intro k hk1 hk2
    simp only [List.length_map, List.length_range] at hk1
    rw [List.getElem_set]
    simp only [List.getElem_map, List.getElem_range]
    split
    · rename_i q; subst q; exact h2 hk1
    · rename_i q; exact h1 k hk1 (Ne.symm q)
theorem kst_even {xs : List Int} {j : Nat} {x : Int} (hx : xs[2 * j]? = some x) : kst xs (2 * j + 1) = (kst xs (2 * j)).set j (hexV x * 16) := by
  refine map_set (fun k _ hk => ?_) (fun _ => ?_)
  · unfold kc
    by_cases h : k < j
    · rw [if_pos (by omega), if_pos (by omega), if_pos (by omega), if_pos (by omega)]
    · rw [if_neg (by omega), if_neg (by omega), if_neg (by omega), if_neg (by omega)]
  · unfold kc
    rw [if_pos (by omega), if_neg (by omega), List.getD_eq_getElem?_getD, hx]
    simp
theorem kst_odd {xs : List Int} {j : Nat} {x y : Int} (hy : xs[2 * j]? = some y) (hx : xs[2 * j + 1]? = some x) : kst xs (2 * j + 2) = (kst xs (2 * j + 1)).set j (hexV y * 16 + hexV x) := by
  refine map_set (fun k _ hk => ?_) (fun _ => ?_)
  · unfold kc
    by_cases h : k < j
    · rw [if_pos (by omega), if_pos (by omega), if_pos (by omega), if_pos (by omega)]
    · rw [if_neg (by omega), if_neg (by omega), if_neg (by omega), if_neg (by omega)]
  · unfold kc
    rw [if_pos (by omega), if_pos (by omega), List.getD_eq_getElem?_getD, List.getD_eq_getElem?_getD, hx, hy]
    simp
theorem kst_at (xs : List Int) {i j : Nat} (h : j < 32) : (kst xs i)[j]? = some (kc xs i j) := by unfold kst; rw [List.getElem?_map, List.getElem?_range h]; rfl
theorem or16 : ∀ a b : Fin 16, bitsE .or .u8 (a.val * 16 : Nat) (b.val : Nat) = some ((a.val * 16 + b.val : Nat) : Int) := by decide +kernel
theorem or16' {a b : Int} (h0 : 0 ≤ a) (h1 : a ≤ 15) (h2 : 0 ≤ b) (h3 : b ≤ 15) : bitsE .or .u8 (a * 16) b = some (a * 16 + b) := by
  have h := or16 ⟨a.toNat, by omega⟩ ⟨b.toNat, by omega⟩
  simp only at h
  have e1 : ((a.toNat * 16 : Nat) : Int) = a * 16 := by omega
  have e2 : ((b.toNat : Nat) : Int) = b := by omega
  have e3 : ((a.toNat * 16 + b.toNat : Nat) : Int) = a * 16 + b := by omega
  rw [e1, e2, e3] at h
  exact h
theorem cpl64 : ∀ i : Fin 64, bitsE .xor .i64 (-1) (i.val : Int) = some (-(i.val : Int) - 1) := by decide +kernel
theorem and64 : ∀ i : Fin 64, bitsE .and .i64 (-(i.val : Int) - 1) 1 = some (1 - (i.val : Int) % 2) := by decide +kernel
theorem key_or {a d : Int} {e : Nat} (he : e < 2) (h0 : 0 ≤ a) (h1 : a ≤ 15) (h2 : 0 ≤ d) (h3 : d ≤ 15) : bitsE .or .u8 (if e = 0 then 0 else a * 16) (if e = 0 then d * 16 else d) = some (if e = 0 then d * 16 else a * 16 + d) := by
  by_cases q : e = 0
  · rw [if_pos q, if_pos q, if_pos q]
    have h := or16' (a := 0) (b := 0) (by omega) (by omega) (by omega) (by omega)
    have := or16 ⟨0, by omega⟩ ⟨d.toNat, by omega⟩
    have h4 : ∀ d : Fin 16, bitsE .or .u8 0 ((d.val : Int) * 16) = some ((d.val : Int) * 16) := by decide +kernel
    have h5 := h4 ⟨d.toNat, by omega⟩
    simp only [show ((d.toNat : Nat) : Int) = d by omega] at h5
    exact h5
  · rw [if_neg q, if_neg q, if_neg q]
    exact or16' h0 h1 h2 h3
theorem keyB_bad {xs : List Int} {x : Int} (hx : x ∈ xs) (h : hexV x < 0) : keyB xs = false := by
  unfold keyB
  have : (xs.all fun x => decide (0 ≤ hexV x)) = false := by
    rw [Bool.eq_false_iff]
    intro q
    have := of_decide_eq_true (List.all_eq_true.1 q x hx)
    omega
  rw [this, Bool.and_false]
theorem keyB_len {xs : List Int} (h : xs.length ≠ 64) : keyB xs = false := by unfold keyB; rw [decide_eq_false h, Bool.false_and]
theorem keyB_good {xs : List Int} (h : xs.length = 64) (hd : ∀ x ∈ xs, 0 ≤ hexV x) : keyB xs = true := by
  unfold keyB
  rw [decide_eq_true h, Bool.true_and, List.all_eq_true]
  exact fun x hx => decide_eq_true (hd x hx)
/-- The digits of bytes. -/
def hexC (d : Int) : Int := if d < 10 then 48 + d else 87 + d
def hexT (ks : List Int) : List Int := ks.flatMap fun x => [hexC (x / 16), hexC (x % 16)]
end
section
attribute [local irreducible] J JL JE JM LS Y Fc RV Code.wp wpList Code.wpIn wpListIn
attribute [local irreducible] Yc strOf
variable (E : World)
theorem valid_spec (r : Int) (l : List HProp) : Fc prog E 104 [.int .i32 r].toArray l (fun v l' => ∃ b, v = .bool b ∧ l' = l) := by
  refine Fc.post ?_
  refine Fc.of_body (c := ?codeC) Tryz.func104 ?hb Tryz.ntmps104 ?hl ?_
  case hb => exact rfl
  case hl => exact rfl
  refine J.seq ?_
  refine J.region ?_
  refine JL.step (y_assign rfl) rfl rfl rfl ?_
  refine JL.nil ?_
  refine JE.then_normal ?_
  refine J.seq ?_
  refine J.block ?_
  refine J.seq ?_
  refine J.region ?_
  refine JL.step (y_move rfl) rfl rfl rfl (JL.step (y_leq rfl rfl) rfl rfl rfl (JL.step (y_move rfl) rfl rfl rfl ?_))
  all_goals (first | (refine JL.gsplit_dec rfl rfl rfl (fun h => ?_) (fun h => ?_) <;> try (first | (exfalso; omega) | exact absurd rfl h)) | (refine JL.gsplit rfl rfl rfl (fun h => ?_) (fun h => ?_) <;> try (first | cases h | (exfalso; simp at h; done))) | skip)
  all_goals (first | refine JL.gskip rfl rfl rfl rfl rfl rfl ?_ | refine JL.gskipU rfl rfl rfl rfl rfl ?_ | refine JL.gstep rfl rfl rfl (y_move rfl) rfl rfl ?_)
  all_goals (first | refine JL.gskip rfl rfl rfl rfl rfl rfl ?_ | refine JL.gskipU rfl rfl rfl rfl rfl ?_ | refine JL.gstep rfl rfl rfl (y_lss rfl rfl) rfl rfl ?_)
  all_goals (refine JL.step (y_pick rfl rfl rfl) rfl rfl rfl ?_)
  all_goals (refine JL.step (y_assign rfl) rfl rfl rfl ?_)
  all_goals refine JL.nil ?_
  all_goals refine JE.then_normal ?_
  all_goals
    first | apply J.cond_dec rfl | apply J.cond rfl
    case' ht =>
      intro h
      try (first | (exfalso; omega) | (cases h; done) | (exfalso; simp at h; done) | subst h)
      all_goals
        refine J.seq ?_
        refine J.region ?_
        refine JL.step (y_assign rfl) rfl rfl rfl ?_
        refine JL.nil ?_
        refine JE.then_normal ?_
        refine J.ret ?_
        refine JE.block_ret ?_
        refine JE.then_ret ?_
        refine JE.ret1 (.inl rfl) rfl rfl (by (first | exact RV.tmp rfl | exact RV.cell1 hT rfl rfl rfl (by (exact Rd1.row (by (repeat (first | exact Pick.head | apply Pick.tail | apply Pick.app))) (by rfl))) | exact RV.cellN hT rfl rfl rfl (by (first | exact RdN.rowAll (by (repeat (first | exact Pick.head | apply Pick.tail | apply Pick.app))) | exact RdN.own (by (repeat (first | exact Pick.head | apply Pick.tail | apply Pick.app))))) (by (first | rfl | assumption | (simp; done) | omega)))) ?_
        exact ⟨l, fun w h => h, _, rfl, rfl⟩
    case' hf =>
      intro h
      try (first | (exfalso; omega) | (cases h; done) | (exfalso; simp at h; done) | subst h)
      all_goals
        refine J.seq ?_
        refine J.region ?_
        refine JL.step (y_move rfl) rfl rfl rfl (JL.step (y_lss rfl rfl) rfl rfl rfl (JL.step (y_move rfl) rfl rfl rfl ?_))
        all_goals (first | (refine JL.gsplit_dec rfl rfl rfl (fun h => ?_) (fun h => ?_) <;> try (first | (exfalso; omega) | exact absurd rfl h)) | (refine JL.gsplit rfl rfl rfl (fun h => ?_) (fun h => ?_) <;> try (first | cases h | (exfalso; simp at h; done))) | skip)
        all_goals (first | refine JL.gskip rfl rfl rfl rfl rfl rfl ?_ | refine JL.gskipU rfl rfl rfl rfl rfl ?_ | refine JL.gstep rfl rfl rfl (y_move rfl) rfl rfl ?_)
        all_goals (first | refine JL.gskip rfl rfl rfl rfl rfl rfl ?_ | refine JL.gskipU rfl rfl rfl rfl rfl ?_ | refine JL.gstep rfl rfl rfl (y_leq rfl rfl) rfl rfl ?_)
        all_goals (refine JL.step (y_pick rfl rfl rfl) rfl rfl rfl ?_)
        all_goals (refine JL.step (y_assign rfl) rfl rfl rfl ?_)
        all_goals refine JL.nil ?_
        all_goals refine JE.then_normal ?_
        all_goals
          first | apply J.cond_dec rfl | apply J.cond rfl
          case' ht =>
            intro h
            try (first | (exfalso; omega) | (cases h; done) | (exfalso; simp at h; done) | subst h)
            all_goals
              refine J.seq ?_
              refine J.region ?_
              refine JL.step (y_assign rfl) rfl rfl rfl ?_
              refine JL.nil ?_
              refine JE.then_normal ?_
              refine J.ret ?_
              refine JE.block_ret ?_
              refine JE.then_ret ?_
              refine JE.ret1 (.inl rfl) rfl rfl (by (first | exact RV.tmp rfl | exact RV.cell1 hT rfl rfl rfl (by (exact Rd1.row (by (repeat (first | exact Pick.head | apply Pick.tail | apply Pick.app))) (by rfl))) | exact RV.cellN hT rfl rfl rfl (by (first | exact RdN.rowAll (by (repeat (first | exact Pick.head | apply Pick.tail | apply Pick.app))) | exact RdN.own (by (repeat (first | exact Pick.head | apply Pick.tail | apply Pick.app))))) (by (first | rfl | assumption | (simp; done) | omega)))) ?_
              exact ⟨l, fun w h => h, _, rfl, rfl⟩
          case' hf =>
            intro h
            try (first | (exfalso; omega) | (cases h; done) | (exfalso; simp at h; done) | subst h)
            all_goals
              refine J.skip ?_
  all_goals refine JE.block_normal ?_
  all_goals refine JE.then_normal ?_
  all_goals
    refine J.seq ?_
    refine J.region ?_
    refine JL.step (y_assign rfl) rfl rfl rfl ?_
    refine JL.nil ?_
    refine JE.then_normal ?_
    refine J.ret ?_
    refine JE.ret1 (.inl rfl) rfl rfl (by (first | exact RV.tmp rfl | exact RV.cell1 hT rfl rfl rfl (by (exact Rd1.row (by (repeat (first | exact Pick.head | apply Pick.tail | apply Pick.app))) (by rfl))) | exact RV.cellN hT rfl rfl rfl (by (first | exact RdN.rowAll (by (repeat (first | exact Pick.head | apply Pick.tail | apply Pick.app))) | exact RdN.own (by (repeat (first | exact Pick.head | apply Pick.tail | apply Pick.app))))) (by (first | rfl | assumption | (simp; done) | omega)))) ?_
    exact ⟨l, fun w h => h, _, rfl, rfl⟩
theorem irune_spec (r : Int) (l : List HProp) (h0 : 0 ≤ r) (h1 : r ≤ 2147483647) : Fc prog E 86 [.string ⟨#[48, 49, 50, 51, 52, 53, 54, 55, 56, 57, 97, 98, 99, 100, 101, 102]⟩, .int .i32 r].toArray l (fun v l' => v = .int .i64 (hexV r) ∧ l' = l) := by
  refine Fc.eqs ?_
  have eS : (⟨#[48, 49, 50, 51, 52, 53, 54, 55, 56, 57, 97, 98, 99, 100, 101, 102]⟩ : ByteArray) = strOf hexS := by unfold strOf; rfl
  rw [eS]
  refine Fc.of_body (c := ?codeC) Tryz.func86 ?hb Tryz.ntmps86 ?hl ?_
  case hb => exact rfl
  case hl => exact rfl
  refine J.seq ?_
  refine J.region ?_
  refine JL.step (y_assign rfl) rfl rfl rfl ?_
  refine JL.nil ?_
  refine JE.then_normal ?_
  refine J.block ?_
  refine J.seq ?_
  refine J.region ?_
  refine JL.step (y_move rfl) rfl rfl rfl (JL.step (y_leq rfl rfl) rfl rfl rfl (JL.step (y_move rfl) rfl rfl rfl ?_))
  all_goals (first | (refine JL.gsplit_dec rfl rfl rfl (fun h => ?_) (fun h => ?_) <;> try (first | (exfalso; omega) | exact absurd rfl h)) | (refine JL.gsplit rfl rfl rfl (fun h => ?_) (fun h => ?_) <;> try (first | cases h | (exfalso; simp at h; done))) | skip)
  all_goals (first | refine JL.gskip rfl rfl rfl rfl rfl rfl ?_ | refine JL.gskipU rfl rfl rfl rfl rfl ?_ | refine JL.gstep rfl rfl rfl (y_move rfl) rfl rfl ?_)
  all_goals (first | refine JL.gskip rfl rfl rfl rfl rfl rfl ?_ | refine JL.gskipU rfl rfl rfl rfl rfl ?_ | refine JL.gstep rfl rfl rfl (y_lss rfl rfl) rfl rfl ?_)
  all_goals (refine JL.step (y_pick rfl rfl rfl) rfl rfl rfl ?_)
  all_goals (refine JL.step (y_assign rfl) rfl rfl rfl ?_)
  all_goals refine JL.nil ?_
  all_goals refine JE.then_normal ?_
  all_goals
    first | apply J.cond_dec rfl | apply J.cond rfl
    case' ht =>
      intro h
      try (first | (exfalso; omega) | (cases h; done) | (exfalso; simp at h; done) | subst h)
      all_goals
        refine J.seq ?_
        refine J.region ?_
        refine JL.step (y_move rfl) rfl rfl rfl (JL.step (y_move rfl) rfl rfl rfl ?_)
        refine JL.step (y_conv (m := r) hT rfl rfl rfl rfl (by rw [IntKind.wrap_u8]; omega)) rfl rfl rfl ?_
        refine JL.loud rfl (l_callF e85 rfl rfl (idxH_spec E (strOf hexS) r _) ?_)
        rintro _ _ ⟨rfl, rfl⟩
        refine JL.step (y_assign rfl) rfl rfl rfl ?_
        refine JL.nil ?_
        refine JE.then_normal ?_
        refine J.ret ?_
        refine JE.block_ret ?_
        refine JE.ret1 (.inl rfl) rfl rfl (by (first | exact RV.tmp rfl | exact RV.cell1 hT rfl rfl rfl (by (exact Rd1.row (by (repeat (first | exact Pick.head | apply Pick.tail | apply Pick.app))) (by rfl))) | exact RV.cellN hT rfl rfl rfl (by (first | exact RdN.rowAll (by (repeat (first | exact Pick.head | apply Pick.tail | apply Pick.app))) | exact RdN.own (by (repeat (first | exact Pick.head | apply Pick.tail | apply Pick.app))))) (by (first | rfl | assumption | (simp; done) | omega)))) ?_
        first
        | (rw [hex_low (by omega) (by omega)]; exact ⟨rfl, fun w h => h.sup (by (repeat (first | exact Sup.refl | apply Sup.cons (by (repeat (first | exact Pick.head | apply Pick.tail | apply Pick.app))) | apply Sup.app | apply Sup.skip | apply Sup.skips)))⟩)
        | (rw [hexV_high (by omega)]; exact ⟨rfl, fun w h => h.sup (by (repeat (first | exact Sup.refl | apply Sup.cons (by (repeat (first | exact Pick.head | apply Pick.tail | apply Pick.app))) | apply Sup.app | apply Sup.skip | apply Sup.skips)))⟩)
    case' hf =>
      intro h
      try (first | (exfalso; omega) | (cases h; done) | (exfalso; simp at h; done) | subst h)
      all_goals
        refine J.seq ?_
        refine J.region ?_
        refine JL.step (y_move rfl) rfl rfl rfl (JL.step (y_eql rfl rfl) rfl rfl rfl (JL.step (y_assign rfl) rfl rfl rfl ?_))
        refine JL.nil ?_
        refine JE.then_normal ?_
        first | apply J.cond_dec rfl | apply J.cond rfl
        case' ht =>
          intro h
          try (first | (exfalso; omega) | (cases h; done) | (exfalso; simp at h; done) | subst h)
          all_goals
            refine J.seq ?_
            refine J.seq ?_
            refine J.region ?_
            refine JL.step (y_move rfl) rfl rfl rfl ?_
            refine JL.loud rfl (l_range hT rfl rfl rfl rfl (fun bi => ?_))
            refine JL.nil ?_
            refine JE.then_normal ?_
            refine J.block ?_
            refine J.loop (α := Nat) (fun i => i ≤ 16) (fun i => [(0, .string (strOf hexS)), (1, .int .i32 65533), (175, .pointer (some ⟨bi, 0, none⟩))]) (fun i => blk bi (.stringIter (strOf hexS) i) :: l) (fun i => 16 - i) 0 (Nat.zero_le _) ⟨rfl, rfl, rfl, trivial⟩ (fun w h => h) ?_
            intro i hi
            try dsimp only
            refine J.seq ?_
            refine J.region ?_
            refine JL.loud rfl (l_nextC hexS_bys rfl (by (repeat (first | exact Pick.head | apply Pick.tail | apply Pick.app))) rfl (fun hge => ?_) (fun c z q hc hz => ?_))
            all_goals (refine JL.step (y_extract rfl rfl) rfl rfl rfl ?_)
            all_goals refine JL.nil ?_
            all_goals refine JE.then_normal ?_
            all_goals
              refine J.seq ?_
              first | apply J.cond_dec rfl | apply J.cond rfl
              case' ht =>
                intro h
                try (first | (exfalso; omega) | (cases h; done) | (exfalso; simp at h; done) | subst h)
                all_goals
                  refine J.skip ?_
              case' hf =>
                intro h
                try (first | (exfalso; omega) | (cases h; done) | (exfalso; simp at h; done) | subst h)
                all_goals
                  refine J.exit ?_
                  refine JE.then_exit ?_
                  refine JE.then_exit ?_
                  refine JE.block_exit ?_
                  refine JE.then_normal ?_
                  refine J.seq ?_
                  refine J.region ?_
                  refine JL.step (y_assign rfl) rfl rfl rfl ?_
                  refine JL.nil ?_
                  refine JE.then_normal ?_
                  refine J.ret ?_
                  refine JE.block_ret ?_
                  refine JE.ret1 (.inl rfl) rfl rfl (by (first | exact RV.tmp rfl | exact RV.cell1 hT rfl rfl rfl (by (exact Rd1.row (by (repeat (first | exact Pick.head | apply Pick.tail | apply Pick.app))) (by rfl))) | exact RV.cellN hT rfl rfl rfl (by (first | exact RdN.rowAll (by (repeat (first | exact Pick.head | apply Pick.tail | apply Pick.app))) | exact RdN.own (by (repeat (first | exact Pick.head | apply Pick.tail | apply Pick.app))))) (by (first | rfl | assumption | (simp; done) | omega)))) ?_
                  first
                  | (rw [hex_low (by omega) (by omega)]; exact ⟨rfl, fun w h => h.sup (by (repeat (first | exact Sup.refl | apply Sup.cons (by (repeat (first | exact Pick.head | apply Pick.tail | apply Pick.app))) | apply Sup.app | apply Sup.skip | apply Sup.skips)))⟩)
                  | (rw [hexV_high (by omega)]; exact ⟨rfl, fun w h => h.sup (by (repeat (first | exact Sup.refl | apply Sup.cons (by (repeat (first | exact Pick.head | apply Pick.tail | apply Pick.app))) | apply Sup.app | apply Sup.skip | apply Sup.skips)))⟩)
              all_goals refine JE.then_normal ?_
              all_goals
                refine J.block ?_
                refine J.seq ?_
                obtain ⟨hlt, hz1, hq1⟩ : i < 16 ∧ z ≤ 102 ∧ q = i + 1 := by
                  have h1 := (List.getElem?_eq_some_iff.1 hc).1
                  have h2 : ∀ y ∈ hexS, 48 ≤ y ∧ y ≤ 102 := by decide
                  have h3 := h2 c (List.mem_of_getElem? hc)
                  have h4 : hexS.length = 16 := rfl
                  omega
                refine J.region ?_
                refine JL.step (y_extract rfl rfl) rfl rfl rfl (JL.step (y_extract rfl rfl) rfl rfl rfl (JL.step (y_assign rfl) rfl rfl rfl (JL.step (y_assign rfl) rfl rfl rfl ?_)))
                refine JL.nil ?_
                refine JE.then_normal ?_
                refine J.seq ?_
                refine J.region ?_
                refine JL.step (y_move rfl) rfl rfl rfl (JL.step (y_eql rfl rfl) rfl rfl rfl ?_)
                refine JL.nil ?_
                refine JE.then_normal ?_
                refine J.cond_f rfl (by (first | rfl | assumption | (simp; done) | (simp; omega))) ?_
                refine J.skip ?_
                refine JE.block_normal ?_
            all_goals
              exact JE.round (s := i) (i + 1) (by omega) ⟨rfl, rfl, rfl, trivial⟩ (fun w h => by rw [hq1] at h; exact h) (by omega)
        case' hf =>
          intro h
          try (first | (exfalso; omega) | (cases h; done) | (exfalso; simp at h; done) | subst h)
          all_goals
            refine J.seq ?_
            refine J.region ?_
            refine JL.step (y_move rfl) rfl rfl rfl ?_
            refine JL.loud rfl (l_callF e104 rfl rfl (valid_spec E r _) ?_)
            rintro _ _ ⟨bv, rfl, el⟩
            obtain rfl := el.symm
            refine JL.step (y_not rfl) rfl rfl rfl (JL.step (y_assign rfl) rfl rfl rfl ?_)
            refine JL.nil ?_
            refine JE.then_normal ?_
            first | apply J.cond_dec rfl | apply J.cond rfl
            case' ht =>
              intro h
              try (first | (exfalso; omega) | (cases h; done) | (exfalso; simp at h; done) | subst h)
              all_goals
                refine J.seq ?_
                refine J.region ?_
                refine JL.step (y_assign rfl) rfl rfl rfl ?_
                refine JL.nil ?_
                refine JE.then_normal ?_
                refine J.ret ?_
                refine JE.block_ret ?_
                refine JE.ret1 (.inl rfl) rfl rfl (by (first | exact RV.tmp rfl | exact RV.cell1 hT rfl rfl rfl (by (exact Rd1.row (by (repeat (first | exact Pick.head | apply Pick.tail | apply Pick.app))) (by rfl))) | exact RV.cellN hT rfl rfl rfl (by (first | exact RdN.rowAll (by (repeat (first | exact Pick.head | apply Pick.tail | apply Pick.app))) | exact RdN.own (by (repeat (first | exact Pick.head | apply Pick.tail | apply Pick.app))))) (by (first | rfl | assumption | (simp; done) | omega)))) ?_
                first
                | (rw [hex_low (by omega) (by omega)]; exact ⟨rfl, fun w h => h.sup (by (repeat (first | exact Sup.refl | apply Sup.cons (by (repeat (first | exact Pick.head | apply Pick.tail | apply Pick.app))) | apply Sup.app | apply Sup.skip | apply Sup.skips)))⟩)
                | (rw [hexV_high (by omega)]; exact ⟨rfl, fun w h => h.sup (by (repeat (first | exact Sup.refl | apply Sup.cons (by (repeat (first | exact Pick.head | apply Pick.tail | apply Pick.app))) | apply Sup.app | apply Sup.skip | apply Sup.skips)))⟩)
            case' hf =>
              intro h
              try (first | (exfalso; omega) | (cases h; done) | (exfalso; simp at h; done) | subst h)
              all_goals
                refine J.scope ?_
                refine J.seq ?_
                obtain ⟨bs, hen, hbb, hb2, hb4, zl, hzl, hz128⟩ := encode_high (r := r) (by omega)
                have hzl2 := hbb.get hzl
                refine J.region ?_
                refine JL.step (y_move rfl) rfl rfl rfl ?_
                refine JL.step (y_convSign hT rfl rfl rfl rfl hen) rfl rfl rfl ?_
                refine JL.step (y_assign rfl) rfl rfl rfl ?_
                refine JL.nil ?_
                refine JE.then_normal ?_
                refine J.seq ?_
                refine J.region ?_
                refine JL.step (y_move rfl) rfl rfl rfl ?_
                refine JL.step (y_lenS hT rfl rfl rfl) rfl rfl rfl ?_
                refine JL.step (y_sub (m := ((bs.length - 1 : Nat) : Int)) rfl rfl (by rw [IntKind.wrap_i64]; omega)) rfl rfl rfl ?_
                refine JL.step (y_assign rfl) rfl rfl rfl ?_
                refine JL.nil ?_
                refine JE.then_normal ?_
                refine J.seq ?_
                refine J.region ?_
                refine JL.step (y_move rfl) rfl rfl rfl (JL.step (y_assign rfl) rfl rfl rfl ?_)
                refine JL.nil ?_
                refine JE.then_normal ?_
                refine J.seq ?_
                refine J.region ?_
                refine JL.step (y_assign rfl) rfl rfl rfl ?_
                refine JL.nil ?_
                refine JE.then_normal ?_
                refine J.seq ?_
                refine J.block ?_
                refine J.loop (α := Unit) (fun _ => True) (fun _ => [(0, .string (strOf hexS)), (1, .int .i32 r), (7, .string (strOf bs)), (8, .int .i64 ((bs.length - 1 : Nat) : Int)), (9, .int .i64 ((bs.length - 1 : Nat) : Int)), (10, .int .i64 0)]) (fun _ => l) (fun _ => 0) () trivial ⟨rfl, rfl, rfl, rfl, rfl, rfl, trivial⟩ (fun w h => h) ?_
                rintro _ _
                try dsimp only
                obtain ⟨hz, hhz, hh1⟩ : ∃ hz, hexS[bs.length - 1]? = some hz ∧ hz ≤ 102 := by
                  have h4 : hexS.length = 16 := rfl
                  refine ⟨hexS[bs.length - 1]'(by omega), List.getElem?_eq_getElem _, ?_⟩
                  have h2 : ∀ y ∈ hexS, 48 ≤ y ∧ y ≤ 102 := by decide
                  exact (h2 _ (List.getElem_mem _)).2
                refine J.seq ?_
                refine J.seq ?_
                refine J.region ?_
                refine JL.step (y_move rfl) rfl rfl rfl (JL.step (y_move rfl) rfl rfl rfl ?_)
                refine JL.step (v := .int .i64 16) (Y.cast (y_lenS (xs := hexS) hT rfl rfl rfl) rfl) rfl rfl rfl ?_
                refine JL.step (y_lss rfl rfl) rfl rfl rfl ?_
                refine JL.nil ?_
                refine JE.then_normal ?_
                refine J.cond_t rfl (by (first | rfl | assumption | (simp; done) | (simp; omega))) ?_
                refine J.skip ?_
                refine JE.then_normal ?_
                refine J.block ?_
                refine J.scope ?_
                refine J.seq ?_
                refine J.seq ?_
                refine J.draw _ _ [(0, .q), (1, .q), (2, .q), (3, .q), (4, .q), (5, .q), (6, .q)] mixed (by kernel_rfl) (Split.nil) ?_
                refine JM.quiet rfl rfl rfl rfl (fun m => y_move rfl) ?_
                refine JM.quiet rfl rfl rfl rfl (fun m => y_move rfl) ?_
                refine JM.quiet rfl rfl rfl rfl (fun m => y_ixS hT hexS_bys rfl rfl rfl rfl rfl hhz) ?_
                refine JM.quiet rfl rfl rfl rfl (fun m => y_move rfl) ?_
                refine JM.quiet rfl rfl rfl rfl (fun m => y_move rfl) ?_
                refine JM.quiet rfl rfl rfl rfl (fun m => y_ixS hT hbb rfl rfl rfl rfl rfl hzl) ?_
                refine JM.quiet rfl rfl rfl rfl (fun m => y_neq rfl rfl) ?_
                refine JM.nil ?_
                refine JE.then_normal ?_
                refine J.cond_t rfl (by (first | rfl | assumption | (simp; done) | (simp; omega))) ?_
                refine J.seq ?_
                refine J.draw _ _ [(0, .q), (1, .q), (2, .q), (3, .q), (4, .q), (5, .q), (6, .q), (7, .l), (8, .q)] mixed (by kernel_rfl) (Split.nil) ?_
                refine JM.quiet rfl rfl rfl rfl (fun m => y_move rfl) ?_
                refine JM.quiet rfl rfl rfl rfl (fun m => y_move rfl) ?_
                refine JM.quiet rfl rfl rfl rfl (fun m => y_add (m := ((bs.length : Nat) : Int)) rfl rfl (by rw [IntKind.wrap_i64]; omega)) ?_
                refine JM.quiet rfl rfl rfl rfl (fun m => y_cutS (xs := hexS) (lo := bs.length) (hi := 16) hT hexS_bys rfl rfl rfl (.inr ⟨_, _, _, rfl, rfl, rfl⟩) (.inl ⟨rfl, rfl⟩) (by omega) (Nat.le_refl _)) ?_
                refine JM.quiet rfl rfl rfl rfl (fun m => y_move rfl) ?_
                refine JM.quiet rfl rfl rfl rfl (fun m => y_move rfl) ?_
                refine JM.quiet rfl rfl rfl rfl (fun m => y_ixS hT hbb rfl rfl rfl rfl rfl hzl) ?_
                refine JM.loud rfl rfl (fun fr => l_callF e85 rfl rfl (idxH_spec E (strOf ((hexS.take 16).drop bs.length)) zl _) ?_)
                rintro _ _ ⟨rfl, rfl⟩
                refine ⟨[], (by (repeat (first | exact Split.nil | exact Split.all | refine Split.cons Pick.head ?_))), ?_⟩
                refine JM.quiet rfl rfl rfl rfl (fun m => y_assign rfl) ?_
                refine JM.nil ?_
                refine JE.then_normal ?_
                refine J.seq ?_
                refine J.seq ?_
                refine J.region ?_
                rw [show hexS.take 16 = hexS from rfl, hex_high hz128 hzl2.2]
                refine JL.step (y_move rfl) rfl rfl rfl (JL.step (y_lss rfl rfl) rfl rfl rfl ?_)
                refine JL.nil ?_
                refine JE.then_normal ?_
                refine J.cond_t rfl (by (first | rfl | assumption | (simp; done) | (simp; omega))) ?_
                refine J.seq ?_
                refine J.region ?_
                refine JL.step (y_assign rfl) rfl rfl rfl ?_
                refine JL.nil ?_
                refine JE.then_normal ?_
                refine J.ret ?_
                refine JE.then_ret ?_
                refine JE.then_ret ?_
                refine JE.scope_ret ?_
                refine JE.block_ret ?_
                refine JE.then_ret ?_
                refine JE.block_ret ?_
                refine JE.then_ret ?_
                refine JE.scope_ret ?_
                refine JE.block_ret ?_
                refine JE.ret1 (.inl rfl) rfl rfl (by (first | exact RV.tmp rfl | exact RV.cell1 hT rfl rfl rfl (by (exact Rd1.row (by (repeat (first | exact Pick.head | apply Pick.tail | apply Pick.app))) (by rfl))) | exact RV.cellN hT rfl rfl rfl (by (first | exact RdN.rowAll (by (repeat (first | exact Pick.head | apply Pick.tail | apply Pick.app))) | exact RdN.own (by (repeat (first | exact Pick.head | apply Pick.tail | apply Pick.app))))) (by (first | rfl | assumption | (simp; done) | omega)))) ?_
                first
                | (rw [hex_low (by omega) (by omega)]; exact ⟨rfl, fun w h => h.sup (by (repeat (first | exact Sup.refl | apply Sup.cons (by (repeat (first | exact Pick.head | apply Pick.tail | apply Pick.app))) | apply Sup.app | apply Sup.skip | apply Sup.skips)))⟩)
                | (rw [hexV_high (by omega)]; exact ⟨rfl, fun w h => h.sup (by (repeat (first | exact Sup.refl | apply Sup.cons (by (repeat (first | exact Pick.head | apply Pick.tail | apply Pick.app))) | apply Sup.app | apply Sup.skip | apply Sup.skips)))⟩)
                all_goals refine JE.block_normal ?_
                all_goals
                  done
  all_goals refine JE.block_normal ?_
  all_goals
    refine JE.ret1 (.inr rfl) rfl rfl (by (first | exact RV.tmp rfl | exact RV.cell1 hT rfl rfl rfl (by (exact Rd1.row (by (repeat (first | exact Pick.head | apply Pick.tail | apply Pick.app))) (by rfl))) | exact RV.cellN hT rfl rfl rfl (by (first | exact RdN.rowAll (by (repeat (first | exact Pick.head | apply Pick.tail | apply Pick.app))) | exact RdN.own (by (repeat (first | exact Pick.head | apply Pick.tail | apply Pick.app))))) (by (first | rfl | assumption | (simp; done) | omega)))) ?_
    first
    | (rw [hex_low (by omega) (by omega)]; exact ⟨rfl, fun w h => h.sup (by (repeat (first | exact Sup.refl | apply Sup.cons (by (repeat (first | exact Pick.head | apply Pick.tail | apply Pick.app))) | apply Sup.app | apply Sup.skip | apply Sup.skips)))⟩)
    | (rw [hexV_high (by omega)]; exact ⟨rfl, fun w h => h.sup (by (repeat (first | exact Sup.refl | apply Sup.cons (by (repeat (first | exact Pick.head | apply Pick.tail | apply Pick.app))) | apply Sup.app | apply Sup.skip | apply Sup.skips)))⟩)
/-- A text's key: the line's way. -/
theorem key_spec (xs : List Int) (l : List HProp) (hB : Bys xs) (hl : xs.length ≤ 1000000) :
    Fc prog E 67 [.string (strOf xs)].toArray l (fun v l' => ∃ ks e p, v = .tuple #[.agg (ints .u8 ks).toArray, .agg #[.int .i64 e, .int .i64 p]] ∧ ks.length = 32 ∧ (keyB xs = true → ks = keyV xs ∧ e = 0 ∧ p = 0) ∧ (keyB xs = false → ks = zer32 ∧ e = 261) ∧ l' = l) := by
  refine Fc.post ?_
  refine Fc.of_body (c := ?codeC) Tryz.func67 ?hb Tryz.ntmps67 ?hl ?_
  case hb => exact rfl
  case hl => exact rfl
  refine J.seq ?_
  refine J.region ?_
  refine JL.loud rfl (l_alloc hT rfl rfl (by (first | rfl | simp)) rfl (fun b1 => ?_))
  refine JL.loud rfl (l_alloc hT rfl rfl (by (first | rfl | simp)) rfl (fun b2 => ?_))
  refine JL.nil ?_
  refine JE.then_normal ?_
  refine J.seq ?_
  refine J.region ?_
  refine JL.loud rfl (l_alloc hT rfl rfl (by (first | rfl | simp)) rfl (fun b3 => ?_))
  refine JL.nil ?_
  refine JE.then_normal ?_
  refine J.seq ?_
  refine J.seq ?_
  refine J.region ?_
  refine JL.step (y_move rfl) rfl rfl rfl ?_
  refine JL.loud rfl (l_range hT rfl rfl rfl rfl (fun bi => ?_))
  refine JL.nil ?_
  refine JE.then_normal ?_
  refine J.block ?_
  refine J.loop (α := Nat) (fun i => i ≤ xs.length ∧ i ≤ 64 ∧ ∀ (j : Nat) y, j < i → xs[j]? = some y → 0 ≤ hexV y) (fun i => [(0, .string (strOf xs)), (2, .pointer (some ⟨b1, 0, none⟩)), (3, .pointer (some ⟨b2, 0, none⟩)), (4, .pointer (some ⟨b3, 0, none⟩)), (9, .pointer (some ⟨bi, 0, none⟩))]) (fun i => blk bi (.stringIter (strOf xs) i) :: row b3 25 (ints .u8 (kst xs i)) :: row b2 30 [.int .i64 0, .int .i64 0] :: row b1 25 (ints .u8 zer32) :: l) (fun i => xs.length - i) 0 ⟨Nat.zero_le _, Nat.zero_le _, by omega⟩ ⟨rfl, rfl, rfl, rfl, rfl, trivial⟩ (fun w h => by rw [kst_zero]; exact h.sup (by (repeat (first | exact Sup.refl | apply Sup.cons (by (repeat (first | exact Pick.head | apply Pick.tail | apply Pick.app))) | apply Sup.app | apply Sup.skip | apply Sup.skips)))) ?_
  rintro i ⟨hi, hi64, hb⟩
  try dsimp only
  refine J.seq ?_
  refine J.region ?_
  refine JL.loud rfl (l_nextC hB rfl (by (repeat (first | exact Pick.head | apply Pick.tail | apply Pick.app))) rfl (fun hge => ?_) (fun c z q hc hz => ?_))
  all_goals (refine JL.step (y_extract rfl rfl) rfl rfl rfl ?_)
  all_goals refine JL.nil ?_
  all_goals refine JE.then_normal ?_
  all_goals
    refine J.seq ?_
    first | apply J.cond_dec rfl | apply J.cond rfl
    case' ht =>
      intro h
      try (first | (exfalso; omega) | (cases h; done) | (exfalso; simp at h; done) | subst h)
      all_goals
        refine J.skip ?_
    case' hf =>
      intro h
      try (first | (exfalso; omega) | (cases h; done) | (exfalso; simp at h; done) | subst h)
      all_goals
        refine J.exit ?_
        refine JE.then_exit ?_
        refine JE.then_exit ?_
        refine JE.block_exit ?_
        refine JE.then_normal ?_
        refine J.seq ?_
        refine J.seq ?_
        refine J.region ?_
        refine JL.step (y_move rfl) rfl rfl rfl (JL.step (y_len_string hT rfl rfl rfl) rfl rfl rfl (JL.step (y_lss rfl rfl) rfl rfl rfl ?_))
        refine JL.nil ?_
        refine JE.then_normal ?_
        first | apply J.cond_dec rfl | apply J.cond rfl
        case' ht =>
          intro h
          try (first | (exfalso; omega) | (cases h; done) | (exfalso; simp at h; done) | subst h)
          all_goals
            refine J.seq ?_
            refine J.region ?_
            refine JL.step (y_build_arr0 hT rfl rfl rfl rfl) rfl rfl rfl (JL.step (y_move rfl) rfl rfl rfl (JL.step (y_len_string hT rfl rfl rfl) rfl rfl rfl ?_))
            refine JL.step (y_build (cs := [_, _]) hT rfl rfl rfl rfl rfl rfl ⟨⟨(by (first | rfl | assumption | (simp; done) | omega)), Nat.le_of_ble_eq_true rfl⟩, ⟨⟨(by (first | rfl | assumption | (simp; done) | omega)), Nat.le_of_ble_eq_true rfl⟩, trivial⟩⟩ rfl) rfl rfl rfl ?_
            refine JL.loud rfl (l_storeAll hT rfl rfl rfl (by (first | rfl | assumption | (simp; done) | omega)) (by (first | assumption | exact ones_of rfl | exact encW_one _ | exact encB_one _ | (intro u hu; simp at hu; rcases hu with rfl | rfl <;> rfl) | (intro u hu; simp at hu; subst hu; rfl) | simp)) (by (repeat (first | exact Pick.head | apply Pick.tail | apply Pick.app))) (by (first | rfl | assumption | (simp; done) | omega)) ?_)
            refine JL.loud rfl (l_storeAll hT rfl rfl rfl (by (first | rfl | assumption | (simp; done) | omega)) (by (first | assumption | exact ones_of rfl | exact encW_one _ | exact encB_one _ | (intro u hu; simp at hu; rcases hu with rfl | rfl <;> rfl) | (intro u hu; simp at hu; subst hu; rfl) | simp)) (by (repeat (first | exact Pick.head | apply Pick.tail | apply Pick.app))) (by (first | rfl | assumption | (simp; done) | omega)) ?_)
            refine JL.nil ?_
            refine JE.then_normal ?_
            refine J.ret ?_
            refine JE.then_ret ?_
            refine JE.ret2 (.inl rfl) rfl rfl (by (first | exact RV.tmp rfl | exact RV.cell1 hT rfl rfl rfl (by (exact Rd1.row (by (repeat (first | exact Pick.head | apply Pick.tail | apply Pick.app))) (by rfl))) | exact RV.cellN hT rfl rfl rfl (by (first | exact RdN.rowAll (by (repeat (first | exact Pick.head | apply Pick.tail | apply Pick.app))) | exact RdN.own (by (repeat (first | exact Pick.head | apply Pick.tail | apply Pick.app))))) (by (first | rfl | assumption | (simp; done) | omega)))) (by (first | exact RV.tmp rfl | exact RV.cell1 hT rfl rfl rfl (by (exact Rd1.row (by (repeat (first | exact Pick.head | apply Pick.tail | apply Pick.app))) (by rfl))) | exact RV.cellN hT rfl rfl rfl (by (first | exact RdN.rowAll (by (repeat (first | exact Pick.head | apply Pick.tail | apply Pick.app))) | exact RdN.own (by (repeat (first | exact Pick.head | apply Pick.tail | apply Pick.app))))) (by (first | rfl | assumption | (simp; done) | omega)))) ?_
            have hsz := strOf_size xs
            first
            | (have hk : keyB xs = false := by
                 first
                 | exact keyB_bad (List.mem_of_getElem? hc) (by omega)
                 | exact keyB_len (by omega)
               exact ⟨l, fun w h => h.sup (by (repeat (first | exact Sup.refl | apply Sup.cons (by (repeat (first | exact Pick.head | apply Pick.tail | apply Pick.app))) | apply Sup.app | apply Sup.skip | apply Sup.skips))), zer32, 261, _, rfl, rfl, fun q => (by rw [hk] at q; cases q), fun _ => ⟨rfl, rfl⟩, rfl⟩)
            | (obtain rfl : i = xs.length := by omega
               have h64 : xs.length = 64 := by omega
               have hk : keyB xs = true := keyB_good h64 fun x hx => by
                 obtain ⟨j, hj, he⟩ := List.mem_iff_getElem.1 hx
                 exact hb j x hj (by rw [List.getElem?_eq_getElem hj, he])
               rw [h64]
               exact ⟨l, fun w h => h.sup (by (repeat (first | exact Sup.refl | apply Sup.cons (by (repeat (first | exact Pick.head | apply Pick.tail | apply Pick.app))) | apply Sup.app | apply Sup.skip | apply Sup.skips))), keyV xs, 0, 0, rfl, kst_length _ _, fun _ => ⟨rfl, rfl, rfl⟩, fun q => (by rw [hk] at q; cases q), rfl⟩)
        case' hf =>
          intro h
          try (first | (exfalso; omega) | (cases h; done) | (exfalso; simp at h; done) | subst h)
          all_goals
            refine J.skip ?_
        all_goals refine JE.then_normal ?_
        all_goals
          refine J.seq ?_
          refine J.region ?_
          refine JL.step (y_loadN hT rfl rfl rfl (by (first | exact RdN.rowAll (by (repeat (first | exact Pick.head | apply Pick.tail | apply Pick.app))) | exact RdN.own (by (repeat (first | exact Pick.head | apply Pick.tail | apply Pick.app))))) (by (first | rfl | assumption | (simp; done) | omega))) rfl rfl rfl ?_
          refine JL.step (y_build (cs := [_, _]) hT rfl rfl rfl rfl rfl rfl trivial rfl) rfl rfl rfl ?_
          refine JL.loud rfl (l_storeAll hT rfl rfl rfl (by (first | rfl | assumption | (simp; done) | omega)) (by (first | assumption | exact ones_of rfl | exact encW_one _ | exact encB_one _ | (intro u hu; simp at hu; rcases hu with rfl | rfl <;> rfl) | (intro u hu; simp at hu; subst hu; rfl) | simp)) (by (repeat (first | exact Pick.head | apply Pick.tail | apply Pick.app))) (by (first | rfl | assumption | (simp; done) | omega)) ?_)
          refine JL.loud rfl (l_storeAll hT rfl rfl rfl (by (first | rfl | assumption | (simp; done) | omega)) (by (first | assumption | exact ones_of rfl | exact encW_one _ | exact encB_one _ | (intro u hu; simp at hu; rcases hu with rfl | rfl <;> rfl) | (intro u hu; simp at hu; subst hu; rfl) | simp)) (by (repeat (first | exact Pick.head | apply Pick.tail | apply Pick.app))) (by (first | rfl | assumption | (simp; done) | omega)) ?_)
          refine JL.nil ?_
          refine JE.then_normal ?_
          refine J.ret ?_
          refine JE.ret2 (.inl rfl) rfl rfl (by (first | exact RV.tmp rfl | exact RV.cell1 hT rfl rfl rfl (by (exact Rd1.row (by (repeat (first | exact Pick.head | apply Pick.tail | apply Pick.app))) (by rfl))) | exact RV.cellN hT rfl rfl rfl (by (first | exact RdN.rowAll (by (repeat (first | exact Pick.head | apply Pick.tail | apply Pick.app))) | exact RdN.own (by (repeat (first | exact Pick.head | apply Pick.tail | apply Pick.app))))) (by (first | rfl | assumption | (simp; done) | omega)))) (by (first | exact RV.tmp rfl | exact RV.cell1 hT rfl rfl rfl (by (exact Rd1.row (by (repeat (first | exact Pick.head | apply Pick.tail | apply Pick.app))) (by rfl))) | exact RV.cellN hT rfl rfl rfl (by (first | exact RdN.rowAll (by (repeat (first | exact Pick.head | apply Pick.tail | apply Pick.app))) | exact RdN.own (by (repeat (first | exact Pick.head | apply Pick.tail | apply Pick.app))))) (by (first | rfl | assumption | (simp; done) | omega)))) ?_
          have hsz := strOf_size xs
          first
          | (have hk : keyB xs = false := by
               first
               | exact keyB_bad (List.mem_of_getElem? hc) (by omega)
               | exact keyB_len (by omega)
             exact ⟨l, fun w h => h.sup (by (repeat (first | exact Sup.refl | apply Sup.cons (by (repeat (first | exact Pick.head | apply Pick.tail | apply Pick.app))) | apply Sup.app | apply Sup.skip | apply Sup.skips))), zer32, 261, _, rfl, rfl, fun q => (by rw [hk] at q; cases q), fun _ => ⟨rfl, rfl⟩, rfl⟩)
          | (obtain rfl : i = xs.length := by omega
             have h64 : xs.length = 64 := by omega
             have hk : keyB xs = true := keyB_good h64 fun x hx => by
               obtain ⟨j, hj, he⟩ := List.mem_iff_getElem.1 hx
               exact hb j x hj (by rw [List.getElem?_eq_getElem hj, he])
             rw [h64]
             exact ⟨l, fun w h => h.sup (by (repeat (first | exact Sup.refl | apply Sup.cons (by (repeat (first | exact Pick.head | apply Pick.tail | apply Pick.app))) | apply Sup.app | apply Sup.skip | apply Sup.skips))), keyV xs, 0, 0, rfl, kst_length _ _, fun _ => ⟨rfl, rfl, rfl⟩, fun q => (by rw [hk] at q; cases q), rfl⟩)
    all_goals refine JE.then_normal ?_
    all_goals
      refine J.block ?_
      refine J.seq ?_
      refine J.region ?_
      refine JL.step (y_extract rfl rfl) rfl rfl rfl (JL.step (y_extract rfl rfl) rfl rfl rfl (JL.step (y_assign rfl) rfl rfl rfl (JL.step (y_assign rfl) rfl rfl rfl ?_)))
      refine JL.nil ?_
      refine JE.then_normal ?_
      refine J.seq ?_
      have hlt := (List.getElem?_eq_some_iff.1 hc).1
      have hzz : hexV z = hexV c := by
        rcases hz with ⟨_, _, rfl, _⟩ | ⟨h1, h2, _⟩
        · rfl
        · rw [hexV_high (by omega), hexV_high (by omega)]
      have hdl := hexV_le c
      refine J.region ?_
      refine JL.step (y_move rfl) rfl rfl rfl ?_
      refine JL.loud rfl (l_callF e86 rfl rfl (irune_spec E z _ (by omega) (by omega)) ?_)
      rintro _ _ ⟨rfl, rfl⟩
      refine JL.step (y_assign rfl) rfl rfl rfl ?_
      refine JL.nil ?_
      refine JE.then_normal ?_
      refine J.seq ?_
      refine J.seq ?_
      refine J.region ?_
      rw [hzz]
      obtain ⟨d, hd⟩ : ∃ d, hexV c = d := ⟨_, rfl⟩
      rw [hd] at hdl ⊢
      refine JL.step (y_move rfl) rfl rfl rfl (JL.step (y_lss rfl rfl) rfl rfl rfl (JL.step (y_move rfl) rfl rfl rfl ?_))
      all_goals (first | (refine JL.gsplit_dec rfl rfl rfl (fun h => ?_) (fun h => ?_) <;> try (first | (exfalso; omega) | exact absurd rfl h)) | (refine JL.gsplit rfl rfl rfl (fun h => ?_) (fun h => ?_) <;> try (first | cases h | (exfalso; simp at h; done))) | skip)
      all_goals (first | refine JL.gskip rfl rfl rfl rfl rfl rfl ?_ | refine JL.gskipU rfl rfl rfl rfl rfl ?_ | refine JL.gstep rfl rfl rfl (y_move rfl) rfl rfl ?_)
      all_goals (first | refine JL.gskip rfl rfl rfl rfl rfl rfl ?_ | refine JL.gskipU rfl rfl rfl rfl rfl ?_ | refine JL.gstep rfl rfl rfl (y_eql rfl rfl) rfl rfl ?_)
      all_goals (refine JL.step (y_pick rfl rfl rfl) rfl rfl rfl ?_)
      all_goals refine JL.nil ?_
      all_goals refine JE.then_normal ?_
      all_goals
        first | apply J.cond_dec rfl | apply J.cond rfl
        case' ht =>
          intro h
          try (first | (exfalso; omega) | (cases h; done) | (exfalso; simp at h; done) | subst h)
          all_goals
            refine J.seq ?_
            refine J.region ?_
            refine JL.step (y_build_arr0 hT rfl rfl rfl rfl) rfl rfl rfl (JL.step (y_move rfl) rfl rfl rfl ?_)
            refine JL.step (y_build (cs := [_, _]) hT rfl rfl rfl rfl rfl rfl ⟨⟨(by (first | rfl | assumption | (simp; done) | omega)), Nat.le_of_ble_eq_true rfl⟩, ⟨⟨(by (first | rfl | assumption | (simp; done) | omega)), Nat.le_of_ble_eq_true rfl⟩, trivial⟩⟩ rfl) rfl rfl rfl ?_
            refine JL.loud rfl (l_storeAll hT rfl rfl rfl (by (first | rfl | assumption | (simp; done) | omega)) (by (first | assumption | exact ones_of rfl | exact encW_one _ | exact encB_one _ | (intro u hu; simp at hu; rcases hu with rfl | rfl <;> rfl) | (intro u hu; simp at hu; subst hu; rfl) | simp)) (by (repeat (first | exact Pick.head | apply Pick.tail | apply Pick.app))) (by (first | rfl | assumption | (simp; done) | omega)) ?_)
            refine JL.loud rfl (l_storeAll hT rfl rfl rfl (by (first | rfl | assumption | (simp; done) | omega)) (by (first | assumption | exact ones_of rfl | exact encW_one _ | exact encB_one _ | (intro u hu; simp at hu; rcases hu with rfl | rfl <;> rfl) | (intro u hu; simp at hu; subst hu; rfl) | simp)) (by (repeat (first | exact Pick.head | apply Pick.tail | apply Pick.app))) (by (first | rfl | assumption | (simp; done) | omega)) ?_)
            refine JL.nil ?_
            refine JE.then_normal ?_
            refine J.ret ?_
            refine JE.then_ret ?_
            refine JE.block_ret ?_
            refine JE.then_ret ?_
            refine JE.block_ret ?_
            refine JE.then_ret ?_
            refine JE.ret2 (.inl rfl) rfl rfl (by (first | exact RV.tmp rfl | exact RV.cell1 hT rfl rfl rfl (by (exact Rd1.row (by (repeat (first | exact Pick.head | apply Pick.tail | apply Pick.app))) (by rfl))) | exact RV.cellN hT rfl rfl rfl (by (first | exact RdN.rowAll (by (repeat (first | exact Pick.head | apply Pick.tail | apply Pick.app))) | exact RdN.own (by (repeat (first | exact Pick.head | apply Pick.tail | apply Pick.app))))) (by (first | rfl | assumption | (simp; done) | omega)))) (by (first | exact RV.tmp rfl | exact RV.cell1 hT rfl rfl rfl (by (exact Rd1.row (by (repeat (first | exact Pick.head | apply Pick.tail | apply Pick.app))) (by rfl))) | exact RV.cellN hT rfl rfl rfl (by (first | exact RdN.rowAll (by (repeat (first | exact Pick.head | apply Pick.tail | apply Pick.app))) | exact RdN.own (by (repeat (first | exact Pick.head | apply Pick.tail | apply Pick.app))))) (by (first | rfl | assumption | (simp; done) | omega)))) ?_
            have hsz := strOf_size xs
            first
            | (have hk : keyB xs = false := by
                 first
                 | exact keyB_bad (List.mem_of_getElem? hc) (by omega)
                 | exact keyB_len (by omega)
               exact ⟨l, fun w h => h.sup (by (repeat (first | exact Sup.refl | apply Sup.cons (by (repeat (first | exact Pick.head | apply Pick.tail | apply Pick.app))) | apply Sup.app | apply Sup.skip | apply Sup.skips))), zer32, 261, _, rfl, rfl, fun q => (by rw [hk] at q; cases q), fun _ => ⟨rfl, rfl⟩, rfl⟩)
            | (obtain rfl : i = xs.length := by omega
               have h64 : xs.length = 64 := by omega
               have hk : keyB xs = true := keyB_good h64 fun x hx => by
                 obtain ⟨j, hj, he⟩ := List.mem_iff_getElem.1 hx
                 exact hb j x hj (by rw [List.getElem?_eq_getElem hj, he])
               rw [h64]
               exact ⟨l, fun w h => h.sup (by (repeat (first | exact Sup.refl | apply Sup.cons (by (repeat (first | exact Pick.head | apply Pick.tail | apply Pick.app))) | apply Sup.app | apply Sup.skip | apply Sup.skips))), keyV xs, 0, 0, rfl, kst_length _ _, fun _ => ⟨rfl, rfl, rfl⟩, fun q => (by rw [hk] at q; cases q), rfl⟩)
        case' hf =>
          intro h
          try (first | (exfalso; omega) | (cases h; done) | (exfalso; simp at h; done) | subst h)
          all_goals
            refine J.skip ?_
      all_goals refine JE.then_normal ?_
      all_goals
        obtain ⟨rfl, rfl⟩ : z = c ∧ q = i + 1 := by
          rcases hz with ⟨_, _, h1, h2⟩ | ⟨h1, h2, _⟩
          · exact ⟨h1, h2⟩
          · rw [hexV_high (by omega)] at hd
            omega
        have hi64b : i < 64 := by omega
        have hd0 : 0 ≤ d := by omega
        obtain ⟨j, e, rfl, he2⟩ : ∃ j e, i = 2 * j + e ∧ e < 2 := ⟨i / 2, i % 2, by omega, by omega⟩
        have hj32 : j < 32 := by omega
        obtain ⟨a, ha0, ha1, hka, hks⟩ : ∃ a, 0 ≤ a ∧ a ≤ 15 ∧ kc xs (2 * j + e) j = (if e = 0 then 0 else a * 16) ∧ kst xs (2 * j + e + 1) = (kst xs (2 * j + e)).set j (if e = 0 then d * 16 else a * 16 + d) := by
          by_cases q : e = 0
          · subst q
            refine ⟨0, by omega, by omega, ?_, ?_⟩
            · unfold kc; rw [if_neg (by omega), if_neg (by omega)]; rfl
            · rw [if_pos rfl, ← hd]
              exact kst_even hc
          · obtain rfl : e = 1 := by omega
            obtain ⟨y, hy⟩ : ∃ y, xs[2 * j]? = some y := ⟨xs[2 * j]'(by omega), List.getElem?_eq_getElem _⟩
            have hyl := hexV_le y
            refine ⟨hexV y, hb _ _ (by omega) hy, by omega, ?_, ?_⟩
            · unfold kc; rw [if_pos (by omega), if_neg (by omega), List.getD_eq_getElem?_getD, hy]; simp
            · rw [if_neg q, ← hd]
              exact kst_odd hy hc
        have hoff : (0 : Nat) + ((j : Nat) : Int).toNat * 1 = j := by rw [Int.toNat_natCast]; omega
        have hcp := cpl64 ⟨2 * j + e, hi64b⟩
        have han := and64 ⟨2 * j + e, hi64b⟩
        have hat := kst_at xs (i := 2 * j + e) hj32
        rw [hka] at hat
        refine J.draw _ _ [(0, .q), (1, .q), (2, .q), (4, .q), (5, .q), (6, .q), (7, .q), (8, .q), (9, .q), (10, .q), (3, .e), (11, .q), (12, .q), (13, .l)] mixed (by kernel_rfl) (Split.cons (Pick.tail Pick.head) (Split.nil)) ?_
        refine JM.quiet rfl rfl rfl rfl (fun m => y_move rfl) ?_
        refine JM.quiet rfl rfl rfl rfl (fun m => y_shr (m := ((j : Nat) : Int)) rfl rfl (by decide) (by show Int.fdiv _ (2 ^ 1) = _; rw [Int.fdiv_eq_ediv_of_nonneg _ (by decide)]; omega)) ?_
        refine JM.quiet rfl rfl rfl rfl (fun m => y_indexAddr_arr hT rfl rfl rfl rfl rfl (by (first | omega | exact Nat.le_of_ble_eq_true rfl | decide | (simp; omega))) (by (first | omega | exact Nat.le_of_ble_eq_true rfl | decide | (simp; omega)))) ?_
        refine JM.quiet rfl rfl rfl rfl (fun m => y_move rfl) ?_
        refine JM.quiet rfl rfl rfl rfl (fun m => y_conv (m := d) hT rfl rfl rfl rfl (by rw [IntKind.wrap_u8]; omega)) ?_
        refine JM.quiet rfl rfl rfl rfl (fun m => y_move rfl) ?_
        refine JM.quiet rfl rfl rfl rfl (fun m => y_cplI rfl hcp) ?_
        refine JM.quiet rfl rfl rfl rfl (fun m => y_bits rfl rfl han) ?_
        refine JM.quiet rfl rfl rfl rfl (fun m => y_mul (m := if e = 0 then 4 else 0) rfl rfl (by show IntKind.wrap .i64 (4 * (1 - (((2 * j + e : Nat) : Int)) % 2)) = _; rw [IntKind.wrap_i64]; split <;> omega)) ?_
        refine JM.quiet rfl rfl rfl rfl (fun m => y_shl (m := if e = 0 then d * 16 else d) rfl rfl (by split <;> omega) (by
          by_cases q : e = 0
          · rw [if_pos q, if_pos q]; show IntKind.wrap .u8 (d * 2 ^ 4) = _; rw [IntKind.wrap_u8]; omega
          · rw [if_neg q, if_neg q]; show IntKind.wrap .u8 (d * 2 ^ 0) = _; rw [IntKind.wrap_u8]; omega)) ?_
        refine JM.early rfl rfl rfl rfl (fun fr => y_load1 hT rfl rfl rfl (Rd1.row (v := .int .u8 (if e = 0 then 0 else a * 16)) (by (repeat (first | exact Pick.head | apply Pick.tail | apply Pick.app))) (by show (ints .u8 (kst xs (2 * j + e)))[0 + ((j : Nat) : Int).toNat * 1]? = _; rw [hoff]; unfold ints; rw [List.getElem?_map, hat]; rfl))) ?_
        refine JM.quiet rfl rfl rfl rfl (fun m => y_bits rfl rfl (key_or he2 ha0 ha1 hd0 hdl.2)) ?_
        refine JM.quiet rfl rfl rfl rfl (fun m => y_indexAddr_arr hT rfl rfl rfl rfl rfl (by (first | omega | exact Nat.le_of_ble_eq_true rfl | decide | (simp; omega))) (by (first | omega | exact Nat.le_of_ble_eq_true rfl | decide | (simp; omega)))) ?_
        refine JM.loud rfl rfl (fun fr => l_store1 hT rfl rfl rfl rfl rfl (by (repeat (first | exact Pick.head | apply Pick.tail | apply Pick.app))) (by show 0 + ((j : Nat) : Int).toNat * 1 < _; rw [hoff]; unfold ints; rw [List.length_map, kst_length]; exact hj32) ⟨[_], (by (repeat (first | exact Split.nil | exact Split.all | refine Split.cons Pick.head ?_))), ?_⟩)
        refine JM.nil ?_
      all_goals refine JE.block_normal ?_
  all_goals
    refine JE.round (s := 2 * j + e) (2 * j + e + 1) ⟨by omega, by omega, fun k y hk hy => ?_⟩ ⟨rfl, rfl, rfl, rfl, rfl, trivial⟩ (fun w h => ?_) (by omega)
    · rcases Nat.lt_or_ge k (2 * j + e) with q | q
      · exact hb k y q hy
      · obtain rfl : k = 2 * j + e := by omega
        rw [hc] at hy
        cases hy
        omega
    · have h9 : (ints .u8 (kst xs (2 * j + e))).set (0 + ((j : Nat) : Int).toNat * 1) (.int .u8 (if e = 0 then d * 16 else a * 16 + d)) = ints .u8 (kst xs (2 * j + e + 1)) := by
        rw [hoff, hks]; unfold ints; rw [List.map_set]
      have h10 : Sat E (stars (row b3 25 ((ints .u8 (kst xs (2 * j + e))).set (0 + ((j : Nat) : Int).toNat * 1) (.int .u8 (if e = 0 then d * 16 else a * 16 + d))) :: _)) w := h
      rw [h9] at h10
      exact h10.sup (by (repeat (first | exact Sup.refl | apply Sup.cons (by (repeat (first | exact Pick.head | apply Pick.tail | apply Pick.app))) | apply Sup.app | apply Sup.skip | apply Sup.skips)))
end
end
section
open Go Go.SL
section
structure CmT where
  kind : Int
  name : List Int
  key : List Int
  text : List Int
  count : Int
  deriving DecidableEq
def cmE (c : CmT) : List Value := .int .i64 c.kind :: .string (strOf c.name) :: (ints .u8 c.key ++ [.string (strOf c.text), .int .i64 c.count])
def cm0 : CmT := ⟨0, [], zer32, [], 0⟩
theorem ints_len {k : IntKind} (xs : List Int) : (ints k xs).length = xs.length := by unfold ints; rw [List.length_map]
theorem cmE_length {c : CmT} (h : c.key.length = 32) : (cmE c).length = 36 := by unfold cmE; simp [ints_len, h]
theorem cmE_one (c : CmT) : ∀ v ∈ cmE c, v.oneCell' = true := by
  intro v hv
  unfold cmE ints at hv
  simp only [List.mem_cons, List.mem_append, List.mem_map, List.not_mem_nil, or_false] at hv
  rcases hv with rfl | rfl | ⟨x, _, rfl⟩ | rfl | rfl <;> rfl
theorem cm_set34 {c : CmT} (h : c.key.length = 32) (p : List Int) : (cmE c).set 34 (.string (strOf p)) = cmE { c with text := p } := by
  unfold cmE
  rw [List.set_cons_succ, List.set_cons_succ, List.set_append_right _ _ (by rw [ints_len, h]; decide), ints_len, h]
  rfl
theorem cm_set35 {c : CmT} (h : c.key.length = 32) (z : Int) : (cmE c).set 35 (.int .i64 z) = cmE { c with count := z } := by
  unfold cmE
  rw [List.set_cons_succ, List.set_cons_succ, List.set_append_right _ _ (by rw [ints_len, h]; decide), ints_len, h]
  rfl
theorem cm_put {c : CmT} (h : c.key.length = 32) (ks : List Int) (hk : ks.length = 32) : (cmE c).take 2 ++ ints .u8 ks ++ (cmE c).drop (2 + (ints .u8 ks).length) = cmE { c with key := ks } := by
  rw [ints_len, hk]
  unfold cmE
  show [_, _] ++ ints .u8 ks ++ List.drop 32 (ints .u8 c.key ++ _) = _
  rw [List.drop_append_of_le_length (by rw [ints_len, h]; exact Nat.le_refl _), List.drop_eq_nil_of_le (by rw [ints_len, h]; exact Nat.le_refl _)]
  rfl
theorem cm_at34 {c : CmT} (h : c.key.length = 32) : (cmE c)[34]? = some (.string (strOf c.text)) := by
  unfold cmE
  rw [List.getElem?_cons_succ, List.getElem?_cons_succ, List.getElem?_append_right (by rw [ints_len, h]; decide), ints_len, h]
  rfl
def rdE (xs : List Int) (at_ : Nat) (e p : Int) : List Value := [.string (strOf xs), .int .i64 at_, .int .i64 e, .int .i64 p]
/-- The part behind the blank at a place, if it is as it has to be. -/
def partAt (xs : List Int) (a : Nat) : List Int := headW (xs.drop (a + 1))
def nextB (xs : List Int) (a : Nat) (t : List Int → Bool) : Bool := decide (a ≠ xs.length) && t (partAt xs a)
def nextP (xs : List Int) (a : Nat) : Int := if a = xs.length then a else a + 1
theorem partAt_le {xs : List Int} {a : Nat} (h : a < xs.length) : a + 1 + (partAt xs a).length ≤ xs.length := by
  have := headW_le (xs.drop (a + 1))
  rw [List.length_drop] at this
  unfold partAt
  omega
theorem partAt_bys {xs : List Int} (h : Bys xs) (a : Nat) : Bys (partAt xs a) := headW_bys (h.drop _)
theorem partAt_cut {xs : List Int} {a : Nat} : (xs.take (a + 1 + (partAt xs a).length)).drop (a + 1) = partAt xs a := by
  rw [List.drop_take, Nat.add_sub_cancel_left]
  exact headW_take _
end
section
attribute [local irreducible] J JL JE JM LS Y Fc RV Code.wp wpList Code.wpIn wpListIn
attribute [local irreducible] Yc strOf
variable (E : World)
theorem fail_spec (rb : Nat) (xs : List Int) (a : Nat) (e0 p0 e p : Int) (l : List HProp) :
    Fc prog E 84 [.pointer (some ⟨rb, 0, none⟩), .int .i64 e, .int .i64 p].toArray (row rb 65 (rdE xs a e0 p0) :: l) (fun v l' => v = .bool false ∧ l' = row rb 65 (rdE xs a e p) :: l) := by
  refine Fc.eqs ?_
  refine Fc.of_body (c := ?codeC) Tryz.func84 ?hb Tryz.ntmps84 ?hl ?_
  case hb => exact rfl
  case hl => exact rfl
  refine J.seq ?_
  refine J.region ?_
  refine JL.step (y_assign rfl) rfl rfl rfl ?_
  refine JL.nil ?_
  refine JE.then_normal ?_
  refine J.seq ?_
  refine J.region ?_
  refine JL.step (y_move rfl) rfl rfl rfl (JL.step (y_move rfl) rfl rfl rfl (JL.step (y_move rfl) rfl rfl rfl ?_))
  refine JL.step (y_build (cs := [_, _]) hT rfl rfl rfl rfl rfl rfl ⟨⟨(by (first | rfl | assumption | (simp; done) | omega)), Nat.le_of_ble_eq_true rfl⟩, ⟨⟨(by (first | rfl | assumption | (simp; done) | omega)), Nat.le_of_ble_eq_true rfl⟩, trivial⟩⟩ rfl) rfl rfl rfl ?_
  refine JL.step ((by first | exact y_nilCheck rfl | exact y_nilCheckF rfl | exact y_nilCheckY rfl)) rfl rfl rfl ?_
  refine JL.step (y_fieldAddr hT rfl rfl rfl rfl rfl rfl) rfl rfl rfl ?_
  refine JL.loud rfl (l_storeN hT rfl rfl rfl (by (first | rfl | assumption | (simp; done) | omega)) (by (first | assumption | exact ones_of rfl | exact encW_one _ | exact encB_one _ | (intro u hu; simp at hu; rcases hu with rfl | rfl <;> rfl) | (intro u hu; simp at hu; subst hu; rfl) | simp)) (by (repeat (first | exact Pick.head | apply Pick.tail | apply Pick.app))) (by (first | omega | exact Nat.le_of_ble_eq_true rfl | decide | (simp; omega))) ?_)
  refine JL.nil ?_
  refine JE.then_normal ?_
  refine J.seq ?_
  refine J.region ?_
  refine JL.step (y_assign rfl) rfl rfl rfl ?_
  refine JL.nil ?_
  refine JE.then_normal ?_
  refine J.ret ?_
  refine JE.ret1 (.inl rfl) rfl rfl (by (first | exact RV.tmp rfl | exact RV.cell1 hT rfl rfl rfl (by (exact Rd1.row (by (repeat (first | exact Pick.head | apply Pick.tail | apply Pick.app))) (by rfl))) | exact RV.cellN hT rfl rfl rfl (by (first | exact RdN.rowAll (by (repeat (first | exact Pick.head | apply Pick.tail | apply Pick.app))) | exact RdN.own (by (repeat (first | exact Pick.head | apply Pick.tail | apply Pick.app))))) (by (first | rfl | assumption | (simp; done) | omega)))) ?_
  exact ⟨rfl, fun w h => h⟩
theorem next_spec (rb : Nat) (xs : List Int) (a : Nat) (f : FuncId) (he : Ent prog f) (cs : List Value) (t : List Int → Bool) (l : List HProp) (L : List Int → List HProp → Prop) (hB : Bys xs) (hl : xs.length ≤ 1000000) (ha : a ≤ xs.length)
    (hf : ∀ p, Bys p → p.length ≤ xs.length → Fc prog E f ([Value.string (strOf p)] ++ cs).toArray (row rb 65 (rdE xs a 0 0) :: l) (fun v l' => v = .bool (t p) ∧ ∃ m, L p m ∧ l' = row rb 65 (rdE xs a 0 0) :: m)) :
    Fc prog E 65 [.pointer (some ⟨rb, 0, none⟩), .func (.func f) #[] cs.toArray].toArray (row rb 65 (rdE xs a 0 0) :: l)
      (fun v l' => v = .bool (nextB xs a t) ∧ (nextB xs a t = true → a < xs.length ∧ t (partAt xs a) = true ∧ ∃ m, L (partAt xs a) m ∧ l' = row rb 65 (rdE xs (a + 1 + (partAt xs a).length) 0 0) :: m) ∧
        (nextB xs a t = false → l' = row rb 65 (rdE xs a 340 (nextP xs a)) :: l ∨ ∃ m, L (partAt xs a) m ∧ l' = row rb 65 (rdE xs a 340 (nextP xs a)) :: m)) := by
  refine Fc.post ?_
  refine Fc.of_body (c := ?codeC) Tryz.func65 ?hb Tryz.ntmps65 ?hl ?_
  case hb => exact rfl
  case hl => exact rfl
  refine J.seq ?_
  refine J.region ?_
  refine JL.step (y_assign rfl) rfl rfl rfl ?_
  refine JL.nil ?_
  refine JE.then_normal ?_
  refine J.seq ?_
  refine J.seq ?_
  refine J.draw _ _ [(0, .q), (1, .q), (2, .q), (3, .q), (4, .q), (5, .q), (6, .q), (7, .q), (8, .q), (9, .q)] mixed (by kernel_rfl) (Split.nil) ?_
  refine JM.quiet rfl rfl rfl rfl (fun m => y_move rfl) ?_
  refine JM.quiet rfl rfl rfl rfl (fun m => (by first | exact y_nilCheck rfl | exact y_nilCheckF rfl | exact y_nilCheckY rfl)) ?_
  refine JM.quiet rfl rfl rfl rfl (fun m => y_fieldAddr hT rfl rfl rfl rfl rfl rfl) ?_
  refine JM.quiet rfl rfl rfl rfl (fun m => y_load1 hT rfl rfl rfl (by (exact Rd1.row (Pick.app m (by (repeat (first | exact Pick.head | apply Pick.tail | apply Pick.app)))) (by rfl)))) ?_
  refine JM.quiet rfl rfl rfl rfl (fun m => y_move rfl) ?_
  refine JM.quiet rfl rfl rfl rfl (fun m => (by first | exact y_nilCheck rfl | exact y_nilCheckF rfl | exact y_nilCheckY rfl)) ?_
  refine JM.quiet rfl rfl rfl rfl (fun m => y_fieldAddr hT rfl rfl rfl rfl rfl rfl) ?_
  refine JM.quiet rfl rfl rfl rfl (fun m => y_load1 hT rfl rfl rfl (by (exact Rd1.row (Pick.app m (by (repeat (first | exact Pick.head | apply Pick.tail | apply Pick.app)))) (by rfl)))) ?_
  refine JM.quiet rfl rfl rfl rfl (fun m => y_lenS hT rfl rfl rfl) ?_
  refine JM.quiet rfl rfl rfl rfl (fun m => y_eql rfl rfl) ?_
  refine JM.nil ?_
  refine JE.then_normal ?_
  first | apply J.cond_dec rfl | apply J.cond rfl
  case' ht =>
    intro h
    try (first | (exfalso; omega) | (cases h; done) | (exfalso; simp at h; done) | subst h)
    all_goals
      refine J.seq ?_
      refine J.region ?_
      refine JL.step (y_move rfl) rfl rfl rfl (JL.step (y_move rfl) rfl rfl rfl ?_)
      refine JL.step ((by first | exact y_nilCheck rfl | exact y_nilCheckF rfl | exact y_nilCheckY rfl)) rfl rfl rfl ?_
      refine JL.step (y_fieldAddr hT rfl rfl rfl rfl rfl rfl) rfl rfl rfl ?_
      refine JL.step (y_load1 hT rfl rfl rfl (by (exact Rd1.row (by (repeat (first | exact Pick.head | apply Pick.tail | apply Pick.app))) (by rfl)))) rfl rfl rfl ?_
      refine JL.loud rfl (l_callF e84 rfl rfl (fail_spec E rb xs a 0 0 340 a _) ?_)
      rintro _ _ ⟨rfl, rfl⟩
      refine JL.step (y_assign rfl) rfl rfl rfl ?_
      refine JL.nil ?_
      refine JE.then_normal ?_
      refine J.ret ?_
      refine JE.then_ret ?_
      refine JE.ret1 (.inl rfl) rfl rfl (by (first | exact RV.tmp rfl | exact RV.cell1 hT rfl rfl rfl (by (exact Rd1.row (by (repeat (first | exact Pick.head | apply Pick.tail | apply Pick.app))) (by rfl))) | exact RV.cellN hT rfl rfl rfl (by (first | exact RdN.rowAll (by (repeat (first | exact Pick.head | apply Pick.tail | apply Pick.app))) | exact RdN.own (by (repeat (first | exact Pick.head | apply Pick.tail | apply Pick.app))))) (by (first | rfl | assumption | (simp; done) | omega)))) ?_
      first
      | (have hn : nextB xs a t = false := by unfold nextB; rw [decide_eq_false (by omega), Bool.false_and]
         have hp : nextP xs a = a := by unfold nextP; rw [if_pos (by omega)]
         rw [hn, hp]
         exact ⟨_, fun w h => h, rfl, fun q => (by cases q), fun _ => .inl rfl⟩)
      | (have hn : nextB xs a t = false := by unfold nextB; rw [hb, Bool.and_false]
         have hp : nextP xs a = ((a + 1 : Nat) : Int) := by unfold nextP; rw [if_neg (by omega)]; omega
         rw [hn, hp]
         exact ⟨_, fun w h => h, rfl, fun q => (by cases q), fun _ => .inr ⟨m, hm, rfl⟩⟩)
      | (have hn : nextB xs a t = true := by unfold nextB; rw [hb, decide_eq_true (by omega), Bool.true_and]
         rw [hn]
         exact ⟨_, fun w h => h, rfl, fun _ => ⟨hlt, hb, m, hm, rfl⟩, fun q => (by cases q)⟩)
  case' hf =>
    intro h
    try (first | (exfalso; omega) | (cases h; done) | (exfalso; simp at h; done) | subst h)
    all_goals
      refine J.skip ?_
  all_goals refine JE.then_normal ?_
  all_goals
    refine J.seq ?_
    have hlt : a < xs.length := by omega
    have hple := partAt_le hlt
    have hpb := partAt_bys hB a
    have hpc := partAt_cut (xs := xs) (a := a)
    refine J.region ?_
    refine JL.step (y_move rfl) rfl rfl rfl ?_
    refine JL.step ((by first | exact y_nilCheck rfl | exact y_nilCheckF rfl | exact y_nilCheckY rfl)) rfl rfl rfl ?_
    refine JL.step (y_fieldAddr hT rfl rfl rfl rfl rfl rfl) rfl rfl rfl ?_
    refine JL.step (y_load1 hT rfl rfl rfl (by (exact Rd1.row (by (repeat (first | exact Pick.head | apply Pick.tail | apply Pick.app))) (by rfl)))) rfl rfl rfl ?_
    refine JL.step (y_add (m := ((a + 1 : Nat) : Int)) rfl rfl (wrap_i64 (by omega) (by omega))) rfl rfl rfl ?_
    refine JL.step (y_assign rfl) rfl rfl rfl ?_
    refine JL.nil ?_
    refine JE.then_normal ?_
    refine J.seq ?_
    refine J.region ?_
    refine JL.step (y_move rfl) rfl rfl rfl ?_
    refine JL.step ((by first | exact y_nilCheck rfl | exact y_nilCheckF rfl | exact y_nilCheckY rfl)) rfl rfl rfl ?_
    refine JL.step (y_fieldAddr hT rfl rfl rfl rfl rfl rfl) rfl rfl rfl ?_
    refine JL.step (y_load1 hT rfl rfl rfl (by (exact Rd1.row (by (repeat (first | exact Pick.head | apply Pick.tail | apply Pick.app))) (by rfl)))) rfl rfl rfl ?_
    refine JL.step (y_move rfl) rfl rfl rfl ?_
    refine JL.step (y_cutS (lo := a + 1) (hi := xs.length) hT hB rfl rfl rfl (.inr ⟨_, _, _, rfl, rfl, rfl⟩) (.inl ⟨rfl, rfl⟩) (by omega) (Nat.le_refl _)) rfl rfl rfl ?_
    refine JL.loud rfl (l_callF e85 rfl rfl (idxB_spec E ((xs.take xs.length).drop (a + 1)) _ ((hB.take _).drop _)) ?_)
    rintro _ _ ⟨rfl, rfl⟩
    refine JL.step (y_assign rfl) rfl rfl rfl ?_
    refine JL.nil ?_
    refine JE.then_normal ?_
    refine J.seqK (α := Unit) (fun _ => True) (fun _ => [(0, .pointer (some ⟨rb, 0, none⟩)), (1, .func (.func f) #[] cs.toArray), (5, .int .i64 ((a + 1 : Nat) : Int)), (6, .int .i64 (partAt xs a).length)]) (fun _ => row rb 65 (rdE xs a 0 0) :: l) ?hj7 (fun hk7 => ?hf7)
    case hf7 =>
      refine J.seq ?_
      rw [List.take_length]
      obtain ⟨z, hz⟩ : ∃ z, spI (xs.drop (a + 1)) = z := ⟨_, rfl⟩
      rw [hz]
      have hz2 : (z < 0 ∧ (partAt xs a).length = xs.length - (a + 1)) ∨ z = (partAt xs a).length := by
        rw [← hz]
        unfold spI
        by_cases q : 32 ∈ xs.drop (a + 1)
        · rw [if_pos q]; exact .inr rfl
        · rw [if_neg q]
          refine .inl ⟨by decide, ?_⟩
          unfold partAt
          rw [headW_all q, List.length_drop]
      refine J.region ?_
      refine JL.step (y_move rfl) rfl rfl rfl (JL.step (y_lss rfl rfl) rfl rfl rfl ?_)
      refine JL.nil ?_
      refine JE.then_normal ?_
      first | apply J.cond_dec rfl | apply J.cond rfl
      case' ht =>
        intro h
        try (first | (exfalso; omega) | (cases h; done) | (exfalso; simp at h; done) | subst h)
        all_goals
          refine J.region ?_
          refine JL.step (y_move rfl) rfl rfl rfl ?_
          refine JL.step ((by first | exact y_nilCheck rfl | exact y_nilCheckF rfl | exact y_nilCheckY rfl)) rfl rfl rfl ?_
          refine JL.step (y_fieldAddr hT rfl rfl rfl rfl rfl rfl) rfl rfl rfl ?_
          refine JL.step (y_load1 hT rfl rfl rfl (by (exact Rd1.row (by (repeat (first | exact Pick.head | apply Pick.tail | apply Pick.app))) (by rfl)))) rfl rfl rfl ?_
          refine JL.step (y_lenS hT rfl rfl rfl) rfl rfl rfl ?_
          refine JL.step (y_move rfl) rfl rfl rfl ?_
          refine JL.step (y_sub (m := ((partAt xs a).length : Int)) rfl rfl (by rw [IntKind.wrap_i64]; omega)) rfl rfl rfl ?_
          refine JL.step (y_assign rfl) rfl rfl rfl ?_
          refine JL.nil ?_
      case' hf =>
        intro h
        try (first | (exfalso; omega) | (cases h; done) | (exfalso; simp at h; done) | subst h)
        all_goals
          refine J.skip ?_
      all_goals refine JE.then_normal ?_
      all_goals
        first
        | exact J.closeK hk7 () trivial ⟨rfl, rfl, rfl, rfl, trivial⟩ (fun w h => h)
        | (have hzz : z = (partAt xs a).length := by omega
           subst hzz
           exact J.closeK hk7 () trivial ⟨rfl, rfl, rfl, rfl, trivial⟩ (fun w h => h))
    rintro _ _
    try dsimp only
    refine J.seq ?_
    refine J.seq ?_
    refine J.region ?_
    refine JL.step (y_move rfl) rfl rfl rfl (JL.step (y_move rfl) rfl rfl rfl ?_)
    refine JL.step ((by first | exact y_nilCheck rfl | exact y_nilCheckF rfl | exact y_nilCheckY rfl)) rfl rfl rfl ?_
    refine JL.step (y_fieldAddr hT rfl rfl rfl rfl rfl rfl) rfl rfl rfl ?_
    refine JL.step (y_load1 hT rfl rfl rfl (by (exact Rd1.row (by (repeat (first | exact Pick.head | apply Pick.tail | apply Pick.app))) (by rfl)))) rfl rfl rfl ?_
    refine JL.step (y_move rfl) rfl rfl rfl (JL.step (y_move rfl) rfl rfl rfl (JL.step (y_move rfl) rfl rfl rfl ?_))
    refine JL.step (y_add (m := ((a + 1 + (partAt xs a).length : Nat) : Int)) rfl rfl (wrap_i64 (by omega) (by omega))) rfl rfl rfl ?_
    refine JL.step (y_cutS (lo := a + 1) (hi := a + 1 + (partAt xs a).length) hT hB rfl rfl rfl (.inr ⟨_, _, _, rfl, rfl, rfl⟩) (.inr ⟨_, _, _, rfl, rfl, rfl⟩) (by omega) (by omega)) rfl rfl rfl ?_
    rw [hpc]
    refine JL.loud rfl (l_callV he rfl rfl rfl (hf _ hpb (by omega)) ?_)
    rintro _ _ ⟨rfl, m, hm, rfl⟩
    refine JL.step (y_not rfl) rfl rfl rfl ?_
    refine JL.nil ?_
    refine JE.then_normal ?_
    first | apply J.cond_dec rfl | apply J.cond rfl
    case' ht =>
      intro h
      try (first | (exfalso; omega) | (cases h; done) | (exfalso; simp at h; done) | subst h)
      all_goals
        refine J.seq ?_
        have hb : t (partAt xs a) = false := by simpa using h
        refine J.region ?_
        refine JL.step (y_move rfl) rfl rfl rfl (JL.step (y_move rfl) rfl rfl rfl ?_)
        refine JL.loud rfl (l_callF e84 rfl rfl (fail_spec E rb xs a 0 0 340 ((a + 1 : Nat) : Int) _) ?_)
        rintro _ _ ⟨rfl, rfl⟩
        refine JL.step (y_assign rfl) rfl rfl rfl ?_
        refine JL.nil ?_
        refine JE.then_normal ?_
        refine J.ret ?_
        refine JE.then_ret ?_
        refine JE.ret1 (.inl rfl) rfl rfl (by (first | exact RV.tmp rfl | exact RV.cell1 hT rfl rfl rfl (by (exact Rd1.row (by (repeat (first | exact Pick.head | apply Pick.tail | apply Pick.app))) (by rfl))) | exact RV.cellN hT rfl rfl rfl (by (first | exact RdN.rowAll (by (repeat (first | exact Pick.head | apply Pick.tail | apply Pick.app))) | exact RdN.own (by (repeat (first | exact Pick.head | apply Pick.tail | apply Pick.app))))) (by (first | rfl | assumption | (simp; done) | omega)))) ?_
        first
        | (have hn : nextB xs a t = false := by unfold nextB; rw [decide_eq_false (by omega), Bool.false_and]
           have hp : nextP xs a = a := by unfold nextP; rw [if_pos (by omega)]
           rw [hn, hp]
           exact ⟨_, fun w h => h, rfl, fun q => (by cases q), fun _ => .inl rfl⟩)
        | (have hn : nextB xs a t = false := by unfold nextB; rw [hb, Bool.and_false]
           have hp : nextP xs a = ((a + 1 : Nat) : Int) := by unfold nextP; rw [if_neg (by omega)]; omega
           rw [hn, hp]
           exact ⟨_, fun w h => h, rfl, fun q => (by cases q), fun _ => .inr ⟨m, hm, rfl⟩⟩)
        | (have hn : nextB xs a t = true := by unfold nextB; rw [hb, decide_eq_true (by omega), Bool.true_and]
           rw [hn]
           exact ⟨_, fun w h => h, rfl, fun _ => ⟨hlt, hb, m, hm, rfl⟩, fun q => (by cases q)⟩)
    case' hf =>
      intro h
      try (first | (exfalso; omega) | (cases h; done) | (exfalso; simp at h; done) | subst h)
      all_goals
        refine J.skip ?_
    all_goals refine JE.then_normal ?_
    all_goals
      refine J.seq ?_
      have hb : t (partAt xs a) = true := by simpa using h
      refine J.region ?_
      refine JL.step (y_move rfl) rfl rfl rfl (JL.step (y_move rfl) rfl rfl rfl (JL.step (y_move rfl) rfl rfl rfl ?_))
      refine JL.step (y_add (m := ((a + 1 + (partAt xs a).length : Nat) : Int)) rfl rfl (wrap_i64 (by omega) (by omega))) rfl rfl rfl ?_
      refine JL.step ((by first | exact y_nilCheck rfl | exact y_nilCheckF rfl | exact y_nilCheckY rfl)) rfl rfl rfl ?_
      refine JL.step (y_fieldAddr hT rfl rfl rfl rfl rfl rfl) rfl rfl rfl ?_
      refine JL.loud rfl (l_store1 hT rfl rfl rfl rfl rfl (by (repeat (first | exact Pick.head | apply Pick.tail | apply Pick.app))) (by (first | omega | exact Nat.le_of_ble_eq_true rfl | decide | (simp; omega))) ?_)
      refine JL.nil ?_
      refine JE.then_normal ?_
      refine J.seq ?_
      refine J.region ?_
      refine JL.step (y_assign rfl) rfl rfl rfl ?_
      refine JL.nil ?_
      refine JE.then_normal ?_
      refine J.ret ?_
      refine JE.ret1 (.inl rfl) rfl rfl (by (first | exact RV.tmp rfl | exact RV.cell1 hT rfl rfl rfl (by (exact Rd1.row (by (repeat (first | exact Pick.head | apply Pick.tail | apply Pick.app))) (by rfl))) | exact RV.cellN hT rfl rfl rfl (by (first | exact RdN.rowAll (by (repeat (first | exact Pick.head | apply Pick.tail | apply Pick.app))) | exact RdN.own (by (repeat (first | exact Pick.head | apply Pick.tail | apply Pick.app))))) (by (first | rfl | assumption | (simp; done) | omega)))) ?_
      first
      | (have hn : nextB xs a t = false := by unfold nextB; rw [decide_eq_false (by omega), Bool.false_and]
         have hp : nextP xs a = a := by unfold nextP; rw [if_pos (by omega)]
         rw [hn, hp]
         exact ⟨_, fun w h => h, rfl, fun q => (by cases q), fun _ => .inl rfl⟩)
      | (have hn : nextB xs a t = false := by unfold nextB; rw [hb, Bool.and_false]
         have hp : nextP xs a = ((a + 1 : Nat) : Int) := by unfold nextP; rw [if_neg (by omega)]; omega
         rw [hn, hp]
         exact ⟨_, fun w h => h, rfl, fun q => (by cases q), fun _ => .inr ⟨m, hm, rfl⟩⟩)
      | (have hn : nextB xs a t = true := by unfold nextB; rw [hb, decide_eq_true (by omega), Bool.true_and]
         rw [hn]
         exact ⟨_, fun w h => h, rfl, fun _ => ⟨hlt, hb, m, hm, rfl⟩, fun q => (by cases q)⟩)
end
end
section
open Go Go.SL
section
theorem ints_one (k : IntKind) (xs : List Int) : ∀ v ∈ ints k xs, v.oneCell' = true := by
  intro v hv
  unfold ints at hv
  obtain ⟨x, _, rfl⟩ := List.mem_map.1 hv
  rfl
/-- The text that is left: its end, or where it is wrong. -/
def txtF (xs : List Int) (a : Nat) : Except (Int × Int) (List Int) :=
  if a = xs.length then .error (340, (a : Int)) else
  let t := xs.drop (a + 1)
  if t = [] then .error (340, (a : Int) + 1) else
  if 48 < t.length then .error (3, (a : Int) + 1) else
  if 0 ≤ oddI t then .error (340, (a : Int) + 1 + oddI t) else .ok t
/-- What stands behind a command's word. -/
def restF (xs : List Int) (a : Nat) (k : Int) : Except (Int × Int) (Nat × CmT) :=
  if k = 1 ∨ k = 3 then .ok (a, ⟨k, [], zer32, [], 0⟩) else
  if nextB xs a nameB = false then .error (340, nextP xs a) else
  let b := a + 1 + (partAt xs a).length
  if k = 2 then (if nextB xs b keyB = false then .error (340, nextP xs b) else .ok (b + 1 + (partAt xs b).length, ⟨k, partAt xs a, keyV (partAt xs b), [], 0⟩)) else
  if k = 6 then (if nextB xs b numB = false then .error (340, nextP xs b) else .ok (b + 1 + (partAt xs b).length, ⟨k, partAt xs a, zer32, [], valD (partAt xs b)⟩)) else
  if k = 4 then (match txtF xs b with | .error p => .error p | .ok t => .ok (xs.length, ⟨k, partAt xs a, zer32, t, 0⟩)) else
  .ok (b, ⟨k, partAt xs a, zer32, [], 0⟩)
end
section
attribute [local irreducible] J JL JE JM LS Y Fc RV Code.wp wpList Code.wpIn wpListIn
attribute [local irreducible] Yc strOf valD dig
variable (E : World)
/-- The part of a closure's world: its box, and the command. -/
def boxL (bx cb : Nat) (c : CmT) (l : List HProp) : List HProp := row bx 67 [.pointer (some ⟨cb, 0, none⟩)] :: row cb 27 (cmE c) :: l
theorem rest1_spec (A : HProp) (bx cb : Nat) (c : CmT) (p : List Int) (l : List HProp) (hk : c.key.length = 32) (hB : Bys p) (hl : p.length ≤ 1000000) :
    Fc prog E 63 ([Value.string (strOf p)] ++ [Value.pointer (some ⟨bx, 0, none⟩)]).toArray (A :: boxL bx cb c l) (fun v l' => v = .bool (nameB p) ∧ ∃ m, m = boxL bx cb { c with name := p } l ∧ l' = A :: m) := by
  refine Fc.post ?_
  unfold boxL
  refine Fc.of_body (c := ?codeC) Tryz.func63 ?hb Tryz.ntmps63 ?hl ?_
  case hb => exact rfl
  case hl => exact rfl
  refine J.seq ?_
  refine J.region ?_
  refine JL.step (y_assign rfl) rfl rfl rfl ?_
  refine JL.nil ?_
  refine JE.then_normal ?_
  refine J.seq ?_
  refine J.region ?_
  refine JL.step (y_load1 hT rfl rfl rfl (by (exact Rd1.row (by (repeat (first | exact Pick.head | apply Pick.tail | apply Pick.app))) (by rfl)))) rfl rfl rfl ?_
  refine JL.step (y_move rfl) rfl rfl rfl ?_
  refine JL.step ((by first | exact y_nilCheck rfl | exact y_nilCheckF rfl | exact y_nilCheckY rfl)) rfl rfl rfl ?_
  refine JL.step (y_fieldAddr hT rfl rfl rfl rfl rfl rfl) rfl rfl rfl ?_
  refine JL.loud rfl (l_store1 hT rfl rfl rfl rfl rfl (by (repeat (first | exact Pick.head | apply Pick.tail | apply Pick.app))) (by rw [cmE_length hk]; decide) ?_)
  refine JL.nil ?_
  refine JE.then_normal ?_
  refine J.seq ?_
  refine J.region ?_
  refine JL.step (y_move rfl) rfl rfl rfl ?_
  refine JL.loud rfl (l_callF e64 rfl rfl (name_spec E p _ hB hl) ?_)
  rintro _ _ ⟨rfl, rfl⟩
  refine JL.step (y_assign rfl) rfl rfl rfl ?_
  refine JL.nil ?_
  refine JE.then_normal ?_
  refine J.ret ?_
  refine JE.ret1 (.inl rfl) rfl rfl (by (first | exact RV.tmp rfl | exact RV.cell1 hT rfl rfl rfl (by (exact Rd1.row (by (repeat (first | exact Pick.head | apply Pick.tail | apply Pick.app))) (by rfl))) | exact RV.cellN hT rfl rfl rfl (by (first | exact RdN.rowAll (by (repeat (first | exact Pick.head | apply Pick.tail | apply Pick.app))) | exact RdN.own (by (repeat (first | exact Pick.head | apply Pick.tail | apply Pick.app))))) (by (first | rfl | assumption | (simp; done) | omega)))) ?_
  exact ⟨_, fun w h => by
    have h2 : Sat E (stars (row cb 27 (cmE { c with name := p }) :: A :: row bx 67 [.pointer (some ⟨cb, 0, none⟩)] :: l)) w := h.sup (by (repeat (first | exact Sup.refl | apply Sup.cons (by (repeat (first | exact Pick.head | apply Pick.tail | apply Pick.app))) | apply Sup.app | apply Sup.skip | apply Sup.skips)))
    exact h2.sup (by (repeat (first | exact Sup.refl | apply Sup.cons (by (repeat (first | exact Pick.head | apply Pick.tail | apply Pick.app))) | apply Sup.app | apply Sup.skip | apply Sup.skips))), rfl, _, rfl, rfl⟩
theorem rest2_spec (A : HProp) (bx cb : Nat) (c : CmT) (p : List Int) (l : List HProp) (hk : c.key.length = 32) (hB : Bys p) (hl : p.length ≤ 1000000) :
    Fc prog E 66 ([Value.string (strOf p)] ++ [Value.pointer (some ⟨bx, 0, none⟩)]).toArray (A :: boxL bx cb c l) (fun v l' => v = .bool (keyB p) ∧ ∃ m, m = boxL bx cb { c with key := if keyB p then keyV p else zer32 } l ∧ l' = A :: m) := by
  refine Fc.post ?_
  unfold boxL
  refine Fc.of_body (c := ?codeC) Tryz.func66 ?hb Tryz.ntmps66 ?hl ?_
  case hb => exact rfl
  case hl => exact rfl
  refine J.seq ?_
  refine J.region ?_
  refine JL.step (y_assign rfl) rfl rfl rfl ?_
  refine JL.nil ?_
  refine JE.then_normal ?_
  refine J.seq ?_
  refine J.region ?_
  refine JL.step (y_move rfl) rfl rfl rfl ?_
  refine JL.loud rfl (l_callF e67 rfl rfl (key_spec E p _ hB hl) ?_)
  rintro _ _ ⟨ks, e, q, rfl, hkl, hy, hn, rfl⟩
  refine JL.step (y_move rfl) rfl rfl rfl (JL.step (y_extract rfl rfl) rfl rfl rfl ?_)
  have hkl2 : (ints .u8 ks).length = i25.size := by rw [ints_len, hkl]; rfl
  refine JL.step (y_extract rfl rfl) rfl rfl rfl ?_
  refine JL.loud rfl (l_alloc hT rfl rfl (by (first | rfl | simp)) rfl (fun b2 => ?_))
  refine JL.loud rfl (l_alloc hT rfl rfl (by (first | rfl | simp)) rfl (fun b3 => ?_))
  refine JL.loud rfl (l_storeAll hT rfl rfl rfl hkl2 (ints_one _ _) (by (repeat (first | exact Pick.head | apply Pick.tail | apply Pick.app))) (by (first | rfl | assumption | (simp; done) | omega)) ?_)
  refine JL.loud rfl (l_storeAll hT rfl rfl rfl (by (first | rfl | assumption | (simp; done) | omega)) (by (first | assumption | exact ones_of rfl | exact encW_one _ | exact encB_one _ | (intro u hu; simp at hu; rcases hu with rfl | rfl <;> rfl) | (intro u hu; simp at hu; subst hu; rfl) | simp)) (by (repeat (first | exact Pick.head | apply Pick.tail | apply Pick.app))) (by (first | rfl | assumption | (simp; done) | omega)) ?_)
  refine JL.nil ?_
  refine JE.then_normal ?_
  refine J.seq ?_
  refine J.region ?_
  refine JL.step (y_load1 hT rfl rfl rfl (by (exact Rd1.row (by (repeat (first | exact Pick.head | apply Pick.tail | apply Pick.app))) (by rfl)))) rfl rfl rfl ?_
  refine JL.step (y_loadN hT rfl rfl rfl (by (first | exact RdN.rowAll (by (repeat (first | exact Pick.head | apply Pick.tail | apply Pick.app))) | exact RdN.own (by (repeat (first | exact Pick.head | apply Pick.tail | apply Pick.app))))) (by (first | rfl | assumption | (simp; done) | omega))) rfl rfl rfl ?_
  refine JL.step ((by first | exact y_nilCheck rfl | exact y_nilCheckF rfl | exact y_nilCheckY rfl)) rfl rfl rfl ?_
  refine JL.step (y_fieldAddr hT rfl rfl rfl rfl rfl rfl) rfl rfl rfl ?_
  refine JL.loud rfl (l_storeN hT rfl rfl rfl hkl2 (ints_one _ _) (by (repeat (first | exact Pick.head | apply Pick.tail | apply Pick.app))) (by rw [ints_len, hkl, cmE_length hk]; decide) ?_)
  refine JL.nil ?_
  refine JE.then_normal ?_
  refine J.seq ?_
  refine J.region ?_
  refine JL.step (y_fieldAddr hT rfl rfl rfl rfl rfl rfl) rfl rfl rfl ?_
  refine JL.step (y_load1 hT rfl rfl rfl (by (exact Rd1.row (by (repeat (first | exact Pick.head | apply Pick.tail | apply Pick.app))) (by rfl)))) rfl rfl rfl ?_
  refine JL.step (y_eql rfl rfl) rfl rfl rfl (JL.step (y_assign rfl) rfl rfl rfl ?_)
  refine JL.nil ?_
  refine JE.then_normal ?_
  refine J.ret ?_
  refine JE.ret1 (.inl rfl) rfl rfl (by (first | exact RV.tmp rfl | exact RV.cell1 hT rfl rfl rfl (by (exact Rd1.row (by (repeat (first | exact Pick.head | apply Pick.tail | apply Pick.app))) (by rfl))) | exact RV.cellN hT rfl rfl rfl (by (first | exact RdN.rowAll (by (repeat (first | exact Pick.head | apply Pick.tail | apply Pick.app))) | exact RdN.own (by (repeat (first | exact Pick.head | apply Pick.tail | apply Pick.app))))) (by (first | rfl | assumption | (simp; done) | omega)))) ?_
  have hks : ks = (if keyB p then keyV p else zer32) := by
    cases q : keyB p
    · rw [(hn q).1]; rfl
    · rw [(hy q).1]; rfl
  have he : decide (e = 0) = keyB p := by
    cases q : keyB p
    · rw [(hn q).2]; rfl
    · rw [(hy q).2.1]; rfl
  have hpt := cm_put hk ks hkl
  rw [← hks]
  exact ⟨_, fun w h => by
    have h1 := h
    erw [hpt] at h1
    exact h1.sup (by (repeat (first | exact Sup.refl | apply Sup.cons (by (repeat (first | exact Pick.head | apply Pick.tail | apply Pick.app))) | apply Sup.app | apply Sup.skip | apply Sup.skips))), congrArg Value.bool he, _, rfl, rfl⟩
theorem rest3_spec (A : HProp) (bx cb : Nat) (c : CmT) (p : List Int) (l : List HProp) (hk : c.key.length = 32) (hB : Bys p) (hl : p.length ≤ 1000000) (hK : K24 E l) :
    Fc prog E 68 ([Value.string (strOf p)] ++ [Value.pointer (some ⟨bx, 0, none⟩)]).toArray (A :: boxL bx cb c l) (fun v l' => v = .bool (numB p) ∧ ∃ m, (∃ z : Int, (numB p = true → z = valD p) ∧ m = boxL bx cb { c with count := z } l) ∧ l' = A :: m) := by
  refine Fc.post ?_
  unfold boxL
  refine Fc.of_body (c := ?codeC) Tryz.func68 ?hb Tryz.ntmps68 ?hl ?_
  case hb => exact rfl
  case hl => exact rfl
  refine J.seq ?_
  refine J.region ?_
  refine JL.step (y_assign rfl) rfl rfl rfl ?_
  refine JL.nil ?_
  refine JE.then_normal ?_
  refine J.seq ?_
  refine J.region ?_
  refine JL.step (y_move rfl) rfl rfl rfl ?_
  refine JL.loud rfl (l_callF e69 rfl rfl (number_spec E p _ hB hl (((hK.cons _).cons _).cons _)) ?_)
  rintro _ _ ⟨z, rfl, hz, rfl⟩
  refine JL.step (y_move rfl) rfl rfl rfl (JL.step (y_extract rfl rfl) rfl rfl rfl (JL.step (y_extract rfl rfl) rfl rfl rfl (JL.step (y_assign rfl) rfl rfl rfl (JL.step (y_assign rfl) rfl rfl rfl ?_))))
  refine JL.nil ?_
  refine JE.then_normal ?_
  refine J.seq ?_
  refine J.region ?_
  refine JL.step (y_load1 hT rfl rfl rfl (by (exact Rd1.row (by (repeat (first | exact Pick.head | apply Pick.tail | apply Pick.app))) (by rfl)))) rfl rfl rfl ?_
  refine JL.step (y_move rfl) rfl rfl rfl ?_
  refine JL.step ((by first | exact y_nilCheck rfl | exact y_nilCheckF rfl | exact y_nilCheckY rfl)) rfl rfl rfl ?_
  refine JL.step (y_fieldAddr hT rfl rfl rfl rfl rfl rfl) rfl rfl rfl ?_
  refine JL.loud rfl (l_store1 hT rfl rfl rfl rfl rfl (by (repeat (first | exact Pick.head | apply Pick.tail | apply Pick.app))) (by rw [cmE_length hk]; decide) ?_)
  refine JL.nil ?_
  refine JE.then_normal ?_
  refine J.seq ?_
  refine J.region ?_
  refine JL.step (y_move rfl) rfl rfl rfl (JL.step (y_assign rfl) rfl rfl rfl ?_)
  refine JL.nil ?_
  refine JE.then_normal ?_
  refine J.ret ?_
  refine JE.ret1 (.inl rfl) rfl rfl (by (first | exact RV.tmp rfl | exact RV.cell1 hT rfl rfl rfl (by (exact Rd1.row (by (repeat (first | exact Pick.head | apply Pick.tail | apply Pick.app))) (by rfl))) | exact RV.cellN hT rfl rfl rfl (by (first | exact RdN.rowAll (by (repeat (first | exact Pick.head | apply Pick.tail | apply Pick.app))) | exact RdN.own (by (repeat (first | exact Pick.head | apply Pick.tail | apply Pick.app))))) (by (first | rfl | assumption | (simp; done) | omega)))) ?_
  have hpt := cm_set35 hk z
  exact ⟨_, fun w h => by
    have h1 := h
    erw [hpt] at h1
    exact h1.sup (by (repeat (first | exact Sup.refl | apply Sup.cons (by (repeat (first | exact Pick.head | apply Pick.tail | apply Pick.app))) | apply Sup.app | apply Sup.skip | apply Sup.skips))), rfl, _, ⟨z, hz, rfl⟩, rfl⟩
/-- Compare the text of a command under way. -/
theorem text24_spec (rb cb : Nat) (xs : List Int) (a : Nat) (c : CmT) (l : List HProp) (hk : c.key.length = 32) (hB : Bys xs) (hl : xs.length ≤ 1000000) (ha : a ≤ xs.length) :
    Fc prog E 70 [.pointer (some ⟨rb, 0, none⟩), .pointer (some ⟨cb, 0, none⟩)].toArray (row rb 65 (rdE xs a 0 0) :: row cb 27 (cmE c) :: l)
      (fun v l' => (∃ t, txtF xs a = .ok t ∧ v = .bool true ∧ l' = row rb 65 (rdE xs xs.length 0 0) :: row cb 27 (cmE { c with text := t }) :: l) ∨
        (∃ e p c2, txtF xs a = .error (e, p) ∧ v = .bool false ∧ l' = row rb 65 (rdE xs a e p) :: row cb 27 (cmE c2) :: l)) := by
  refine Fc.post ?_
  refine Fc.of_body (c := ?codeC) Tryz.func70 ?hb Tryz.ntmps70 ?hl ?_
  case hb => exact rfl
  case hl => exact rfl
  refine J.seq ?_
  refine J.region ?_
  refine JL.step (y_assign rfl) rfl rfl rfl ?_
  refine JL.nil ?_
  refine JE.then_normal ?_
  refine J.seq ?_
  refine J.seq ?_
  refine J.draw _ _ [(0, .q), (1, .q), (2, .q), (3, .q), (4, .q), (5, .q), (6, .q), (7, .q), (8, .q), (9, .q)] mixed (by kernel_rfl) (Split.nil) ?_
  refine JM.quiet rfl rfl rfl rfl (fun m => y_move rfl) ?_
  refine JM.quiet rfl rfl rfl rfl (fun m => (by first | exact y_nilCheck rfl | exact y_nilCheckF rfl | exact y_nilCheckY rfl)) ?_
  refine JM.quiet rfl rfl rfl rfl (fun m => y_fieldAddr hT rfl rfl rfl rfl rfl rfl) ?_
  refine JM.quiet rfl rfl rfl rfl (fun m => y_load1 hT rfl rfl rfl (by (exact Rd1.row (Pick.app m (by (repeat (first | exact Pick.head | apply Pick.tail | apply Pick.app)))) (by rfl)))) ?_
  refine JM.quiet rfl rfl rfl rfl (fun m => y_move rfl) ?_
  refine JM.quiet rfl rfl rfl rfl (fun m => (by first | exact y_nilCheck rfl | exact y_nilCheckF rfl | exact y_nilCheckY rfl)) ?_
  refine JM.quiet rfl rfl rfl rfl (fun m => y_fieldAddr hT rfl rfl rfl rfl rfl rfl) ?_
  refine JM.quiet rfl rfl rfl rfl (fun m => y_load1 hT rfl rfl rfl (by (exact Rd1.row (Pick.app m (by (repeat (first | exact Pick.head | apply Pick.tail | apply Pick.app)))) (by rfl)))) ?_
  refine JM.quiet rfl rfl rfl rfl (fun m => y_lenS hT rfl rfl rfl) ?_
  refine JM.quiet rfl rfl rfl rfl (fun m => y_eql rfl rfl) ?_
  refine JM.nil ?_
  refine JE.then_normal ?_
  first | apply J.cond_dec rfl | apply J.cond rfl
  case' ht =>
    intro h
    try (first | (exfalso; omega) | (cases h; done) | (exfalso; simp at h; done) | subst h)
    all_goals
      refine J.seq ?_
      refine J.region ?_
      refine JL.step (y_move rfl) rfl rfl rfl (JL.step (y_move rfl) rfl rfl rfl ?_)
      refine JL.step ((by first | exact y_nilCheck rfl | exact y_nilCheckF rfl | exact y_nilCheckY rfl)) rfl rfl rfl ?_
      refine JL.step (y_fieldAddr hT rfl rfl rfl rfl rfl rfl) rfl rfl rfl ?_
      refine JL.step (y_load1 hT rfl rfl rfl (by (exact Rd1.row (by (repeat (first | exact Pick.head | apply Pick.tail | apply Pick.app))) (by rfl)))) rfl rfl rfl ?_
      refine JL.loud rfl (l_callF e84 rfl rfl (fail_spec E rb xs a 0 0 340 a _) ?_)
      rintro _ _ ⟨rfl, rfl⟩
      refine JL.step (y_assign rfl) rfl rfl rfl ?_
      refine JL.nil ?_
      refine JE.then_normal ?_
      refine J.ret ?_
      refine JE.then_ret ?_
      refine JE.ret1 (.inl rfl) rfl rfl (by (first | exact RV.tmp rfl | exact RV.cell1 hT rfl rfl rfl (by (exact Rd1.row (by (repeat (first | exact Pick.head | apply Pick.tail | apply Pick.app))) (by rfl))) | exact RV.cellN hT rfl rfl rfl (by (first | exact RdN.rowAll (by (repeat (first | exact Pick.head | apply Pick.tail | apply Pick.app))) | exact RdN.own (by (repeat (first | exact Pick.head | apply Pick.tail | apply Pick.app))))) (by (first | rfl | assumption | (simp; done) | omega)))) ?_
      first
      | (have hf : txtF xs a = .error (340, (a : Int)) := by unfold txtF; rw [if_pos (by omega)]
         exact ⟨_, fun w h => h, .inr ⟨340, a, c, hf, rfl, rfl⟩⟩)
      | (have hb2 : t = [] := of_decide_eq_true hb.symm
         rw [if_pos hb2] at hf
         exact ⟨_, fun w h => h, .inr ⟨340, (a : Int) + 1, _, hf, rfl, rfl⟩⟩)
      | (have hb2 : ¬ t = [] := of_decide_eq_false hb.symm
         rw [if_neg hb2, if_pos (by omega)] at hf
         exact ⟨_, fun w h => h, .inr ⟨3, (a : Int) + 1, _, hf, rfl, rfl⟩⟩)
      | (have hb2 : ¬ t = [] := of_decide_eq_false hb.symm
         rw [if_neg hb2, if_neg (by omega), if_pos (by omega)] at hf
         exact ⟨_, fun w h => h, .inr ⟨340, (a : Int) + 1 + z, _, hf, rfl, rfl⟩⟩)
      | (have hb2 : ¬ t = [] := of_decide_eq_false hb.symm
         rw [if_neg hb2, if_neg (by omega), if_neg (by omega)] at hf
         exact ⟨_, fun w h => h, .inl ⟨t, hf, rfl, rfl⟩⟩)
  case' hf =>
    intro h
    try (first | (exfalso; omega) | (cases h; done) | (exfalso; simp at h; done) | subst h)
    all_goals
      refine J.skip ?_
  all_goals refine JE.then_normal ?_
  all_goals
    refine J.seq ?_
    have hlt : a < xs.length := by omega
    obtain ⟨t, ht⟩ : ∃ t, xs.drop (a + 1) = t := ⟨_, rfl⟩
    have htl : t.length = xs.length - (a + 1) := by rw [← ht, List.length_drop]
    have htB : Bys t := by rw [← ht]; exact hB.drop _
    obtain ⟨b, hb⟩ : ∃ b, b = decide (t = []) := ⟨_, rfl⟩
    have hf : txtF xs a = (if t = [] then .error (340, (a : Int) + 1) else if 48 < t.length then .error (3, (a : Int) + 1) else if 0 ≤ oddI t then .error (340, (a : Int) + 1 + oddI t) else .ok t) := by
      unfold txtF
      rw [if_neg (by omega)]
      simp only [ht]
    have hc34 : (cmE { c with text := t })[34]? = some (.string (strOf t)) := cm_at34 (c := { c with text := t }) hk
    refine J.region ?_
    refine JL.step (y_move rfl) rfl rfl rfl ?_
    refine JL.step ((by first | exact y_nilCheck rfl | exact y_nilCheckF rfl | exact y_nilCheckY rfl)) rfl rfl rfl ?_
    refine JL.step (y_fieldAddr hT rfl rfl rfl rfl rfl rfl) rfl rfl rfl ?_
    refine JL.step (y_load1 hT rfl rfl rfl (by (exact Rd1.row (by (repeat (first | exact Pick.head | apply Pick.tail | apply Pick.app))) (by rfl)))) rfl rfl rfl ?_
    refine JL.step (y_add (m := ((a + 1 : Nat) : Int)) rfl rfl (wrap_i64 (by omega) (by omega))) rfl rfl rfl ?_
    refine JL.step (y_assign rfl) rfl rfl rfl ?_
    refine JL.nil ?_
    refine JE.then_normal ?_
    refine J.seq ?_
    refine J.region ?_
    refine JL.step (y_move rfl) rfl rfl rfl (JL.step (y_move rfl) rfl rfl rfl ?_)
    refine JL.step ((by first | exact y_nilCheck rfl | exact y_nilCheckF rfl | exact y_nilCheckY rfl)) rfl rfl rfl ?_
    refine JL.step (y_fieldAddr hT rfl rfl rfl rfl rfl rfl) rfl rfl rfl ?_
    refine JL.step (y_load1 hT rfl rfl rfl (by (exact Rd1.row (by (repeat (first | exact Pick.head | apply Pick.tail | apply Pick.app))) (by rfl)))) rfl rfl rfl ?_
    refine JL.step (y_move rfl) rfl rfl rfl ?_
    refine JL.step (y_cutS (lo := a + 1) (hi := xs.length) hT hB rfl rfl rfl (.inr ⟨_, _, _, rfl, rfl, rfl⟩) (.inl ⟨rfl, rfl⟩) (by omega) (Nat.le_refl _)) rfl rfl rfl ?_
    rw [List.take_length, ht]
    refine JL.step ((by first | exact y_nilCheck rfl | exact y_nilCheckF rfl | exact y_nilCheckY rfl)) rfl rfl rfl ?_
    refine JL.step (y_fieldAddr hT rfl rfl rfl rfl rfl rfl) rfl rfl rfl ?_
    refine JL.loud rfl (l_store1 hT rfl rfl rfl rfl rfl (by (repeat (first | exact Pick.head | apply Pick.tail | apply Pick.app))) (by rw [cmE_length hk]; decide) ?_)
    refine JL.pre (l' := row rb 65 (rdE xs a 0 0) :: row cb 27 (cmE { c with text := t }) :: l) (fun w h => by
      have h1 := h
      erw [cm_set34 hk t] at h1
      exact h1.sup (by (repeat (first | exact Sup.refl | apply Sup.cons (by (repeat (first | exact Pick.head | apply Pick.tail | apply Pick.app))) | apply Sup.app | apply Sup.skip | apply Sup.skips)))) ?_
    refine JL.nil ?_
    refine JE.then_normal ?_
    refine J.seq ?_
    refine J.block ?_
    refine J.seq ?_
    refine J.region ?_
    refine JL.step (y_move rfl) rfl rfl rfl ?_
    refine JL.step ((by first | exact y_nilCheck rfl | exact y_nilCheckF rfl | exact y_nilCheckY rfl)) rfl rfl rfl ?_
    refine JL.step (y_fieldAddr hT rfl rfl rfl rfl rfl rfl) rfl rfl rfl ?_
    refine JL.step (y_load1 hT rfl rfl rfl (Rd1.row (by (repeat (first | exact Pick.head | apply Pick.tail | apply Pick.app))) hc34)) rfl rfl rfl ?_
    refine JL.step (y_eqS (ys := []) (b := b) htB Bys.nil rfl (by unfold strOf; rfl) hb) rfl rfl rfl ?_
    refine JL.step (y_assign rfl) rfl rfl rfl ?_
    refine JL.nil ?_
    refine JE.then_normal ?_
    first | apply J.cond_dec rfl | apply J.cond rfl
    case' ht =>
      intro h
      try (first | (exfalso; omega) | (cases h; done) | (exfalso; simp at h; done) | subst h)
      all_goals
        refine J.seq ?_
        refine J.region ?_
        refine JL.step (y_move rfl) rfl rfl rfl (JL.step (y_move rfl) rfl rfl rfl ?_)
        refine JL.loud rfl (l_callF e84 rfl rfl (fail_spec E rb xs a 0 0 340 ((a + 1 : Nat) : Int) _) ?_)
        rintro _ _ ⟨rfl, rfl⟩
        refine JL.step (y_assign rfl) rfl rfl rfl ?_
        refine JL.nil ?_
        refine JE.then_normal ?_
        refine J.ret ?_
        refine JE.block_ret ?_
        refine JE.then_ret ?_
        refine JE.ret1 (.inl rfl) rfl rfl (by (first | exact RV.tmp rfl | exact RV.cell1 hT rfl rfl rfl (by (exact Rd1.row (by (repeat (first | exact Pick.head | apply Pick.tail | apply Pick.app))) (by rfl))) | exact RV.cellN hT rfl rfl rfl (by (first | exact RdN.rowAll (by (repeat (first | exact Pick.head | apply Pick.tail | apply Pick.app))) | exact RdN.own (by (repeat (first | exact Pick.head | apply Pick.tail | apply Pick.app))))) (by (first | rfl | assumption | (simp; done) | omega)))) ?_
        first
        | (have hf : txtF xs a = .error (340, (a : Int)) := by unfold txtF; rw [if_pos (by omega)]
           exact ⟨_, fun w h => h, .inr ⟨340, a, c, hf, rfl, rfl⟩⟩)
        | (have hb2 : t = [] := of_decide_eq_true hb.symm
           rw [if_pos hb2] at hf
           exact ⟨_, fun w h => h, .inr ⟨340, (a : Int) + 1, _, hf, rfl, rfl⟩⟩)
        | (have hb2 : ¬ t = [] := of_decide_eq_false hb.symm
           rw [if_neg hb2, if_pos (by omega)] at hf
           exact ⟨_, fun w h => h, .inr ⟨3, (a : Int) + 1, _, hf, rfl, rfl⟩⟩)
        | (have hb2 : ¬ t = [] := of_decide_eq_false hb.symm
           rw [if_neg hb2, if_neg (by omega), if_pos (by omega)] at hf
           exact ⟨_, fun w h => h, .inr ⟨340, (a : Int) + 1 + z, _, hf, rfl, rfl⟩⟩)
        | (have hb2 : ¬ t = [] := of_decide_eq_false hb.symm
           rw [if_neg hb2, if_neg (by omega), if_neg (by omega)] at hf
           exact ⟨_, fun w h => h, .inl ⟨t, hf, rfl, rfl⟩⟩)
    case' hf =>
      intro h
      try (first | (exfalso; omega) | (cases h; done) | (exfalso; simp at h; done) | subst h)
      all_goals
        refine J.seq ?_
        refine J.region ?_
        refine JL.step (y_move rfl) rfl rfl rfl ?_
        refine JL.step ((by first | exact y_nilCheck rfl | exact y_nilCheckF rfl | exact y_nilCheckY rfl)) rfl rfl rfl ?_
        refine JL.step (y_fieldAddr hT rfl rfl rfl rfl rfl rfl) rfl rfl rfl ?_
        refine JL.step (y_load1 hT rfl rfl rfl (Rd1.row (by (repeat (first | exact Pick.head | apply Pick.tail | apply Pick.app))) hc34)) rfl rfl rfl ?_
        refine JL.step (y_lenS hT rfl rfl rfl) rfl rfl rfl ?_
        refine JL.step (y_gtr rfl rfl) rfl rfl rfl (JL.step (y_assign rfl) rfl rfl rfl ?_)
        refine JL.nil ?_
        refine JE.then_normal ?_
        first | apply J.cond_dec rfl | apply J.cond rfl
        case' ht =>
          intro h
          try (first | (exfalso; omega) | (cases h; done) | (exfalso; simp at h; done) | subst h)
          all_goals
            refine J.seq ?_
            refine J.region ?_
            refine JL.step (y_move rfl) rfl rfl rfl (JL.step (y_move rfl) rfl rfl rfl ?_)
            refine JL.loud rfl (l_callF e84 rfl rfl (fail_spec E rb xs a 0 0 3 ((a + 1 : Nat) : Int) _) ?_)
            rintro _ _ ⟨rfl, rfl⟩
            refine JL.step (y_assign rfl) rfl rfl rfl ?_
            refine JL.nil ?_
            refine JE.then_normal ?_
            refine J.ret ?_
            refine JE.block_ret ?_
            refine JE.then_ret ?_
            refine JE.ret1 (.inl rfl) rfl rfl (by (first | exact RV.tmp rfl | exact RV.cell1 hT rfl rfl rfl (by (exact Rd1.row (by (repeat (first | exact Pick.head | apply Pick.tail | apply Pick.app))) (by rfl))) | exact RV.cellN hT rfl rfl rfl (by (first | exact RdN.rowAll (by (repeat (first | exact Pick.head | apply Pick.tail | apply Pick.app))) | exact RdN.own (by (repeat (first | exact Pick.head | apply Pick.tail | apply Pick.app))))) (by (first | rfl | assumption | (simp; done) | omega)))) ?_
            first
            | (have hf : txtF xs a = .error (340, (a : Int)) := by unfold txtF; rw [if_pos (by omega)]
               exact ⟨_, fun w h => h, .inr ⟨340, a, c, hf, rfl, rfl⟩⟩)
            | (have hb2 : t = [] := of_decide_eq_true hb.symm
               rw [if_pos hb2] at hf
               exact ⟨_, fun w h => h, .inr ⟨340, (a : Int) + 1, _, hf, rfl, rfl⟩⟩)
            | (have hb2 : ¬ t = [] := of_decide_eq_false hb.symm
               rw [if_neg hb2, if_pos (by omega)] at hf
               exact ⟨_, fun w h => h, .inr ⟨3, (a : Int) + 1, _, hf, rfl, rfl⟩⟩)
            | (have hb2 : ¬ t = [] := of_decide_eq_false hb.symm
               rw [if_neg hb2, if_neg (by omega), if_pos (by omega)] at hf
               exact ⟨_, fun w h => h, .inr ⟨340, (a : Int) + 1 + z, _, hf, rfl, rfl⟩⟩)
            | (have hb2 : ¬ t = [] := of_decide_eq_false hb.symm
               rw [if_neg hb2, if_neg (by omega), if_neg (by omega)] at hf
               exact ⟨_, fun w h => h, .inl ⟨t, hf, rfl, rfl⟩⟩)
        case' hf =>
          intro h
          try (first | (exfalso; omega) | (cases h; done) | (exfalso; simp at h; done) | subst h)
          all_goals
            refine J.seq ?_
            refine J.region ?_
            refine JL.step (y_move rfl) rfl rfl rfl ?_
            refine JL.step ((by first | exact y_nilCheck rfl | exact y_nilCheckF rfl | exact y_nilCheckY rfl)) rfl rfl rfl ?_
            refine JL.step (y_fieldAddr hT rfl rfl rfl rfl rfl rfl) rfl rfl rfl ?_
            refine JL.step (y_load1 hT rfl rfl rfl (Rd1.row (by (repeat (first | exact Pick.head | apply Pick.tail | apply Pick.app))) hc34)) rfl rfl rfl ?_
            refine JL.loud rfl (l_callF e56 rfl rfl (odd_spec E t _ htB (by omega)) ?_)
            rintro _ _ ⟨rfl, rfl⟩
            obtain ⟨z, hz⟩ : ∃ z, oddI t = z := ⟨_, rfl⟩
            have hz9 : z ≤ 1000000 := by
              rw [← hz]
              unfold oddI
              split
              · have h1 := (List.takeWhile_prefix (fun x => !oddB x) (l := t)).length_le
                omega
              · decide
            rw [hz] at hf ⊢
            refine JL.step (y_geq rfl rfl) rfl rfl rfl (JL.step (y_assign rfl) rfl rfl rfl ?_)
            refine JL.nil ?_
            refine JE.then_normal ?_
            first | apply J.cond_dec rfl | apply J.cond rfl
            case' ht =>
              intro h
              try (first | (exfalso; omega) | (cases h; done) | (exfalso; simp at h; done) | subst h)
              all_goals
                refine J.seq ?_
                refine J.region ?_
                refine JL.step (y_move rfl) rfl rfl rfl (JL.step (y_move rfl) rfl rfl rfl (JL.step (y_move rfl) rfl rfl rfl ?_))
                refine JL.step ((by first | exact y_nilCheck rfl | exact y_nilCheckF rfl | exact y_nilCheckY rfl)) rfl rfl rfl ?_
                refine JL.step (y_fieldAddr hT rfl rfl rfl rfl rfl rfl) rfl rfl rfl ?_
                refine JL.step (y_load1 hT rfl rfl rfl (Rd1.row (by (repeat (first | exact Pick.head | apply Pick.tail | apply Pick.app))) hc34)) rfl rfl rfl ?_
                refine JL.loud rfl (l_callF e56 rfl rfl (hz ▸ odd_spec E t _ htB (by omega)) ?_)
                rintro _ _ ⟨rfl, rfl⟩
                refine JL.step (y_add (m := (a : Int) + 1 + z) rfl rfl (by rw [IntKind.wrap_i64]; omega)) rfl rfl rfl ?_
                refine JL.loud rfl (l_callF e84 rfl rfl (fail_spec E rb xs a 0 0 340 ((a : Int) + 1 + z) _) ?_)
                rintro _ _ ⟨rfl, rfl⟩
                refine JL.step (y_assign rfl) rfl rfl rfl ?_
                refine JL.nil ?_
                refine JE.then_normal ?_
                refine J.ret ?_
                refine JE.block_ret ?_
                refine JE.then_ret ?_
                refine JE.ret1 (.inl rfl) rfl rfl (by (first | exact RV.tmp rfl | exact RV.cell1 hT rfl rfl rfl (by (exact Rd1.row (by (repeat (first | exact Pick.head | apply Pick.tail | apply Pick.app))) (by rfl))) | exact RV.cellN hT rfl rfl rfl (by (first | exact RdN.rowAll (by (repeat (first | exact Pick.head | apply Pick.tail | apply Pick.app))) | exact RdN.own (by (repeat (first | exact Pick.head | apply Pick.tail | apply Pick.app))))) (by (first | rfl | assumption | (simp; done) | omega)))) ?_
                first
                | (have hf : txtF xs a = .error (340, (a : Int)) := by unfold txtF; rw [if_pos (by omega)]
                   exact ⟨_, fun w h => h, .inr ⟨340, a, c, hf, rfl, rfl⟩⟩)
                | (have hb2 : t = [] := of_decide_eq_true hb.symm
                   rw [if_pos hb2] at hf
                   exact ⟨_, fun w h => h, .inr ⟨340, (a : Int) + 1, _, hf, rfl, rfl⟩⟩)
                | (have hb2 : ¬ t = [] := of_decide_eq_false hb.symm
                   rw [if_neg hb2, if_pos (by omega)] at hf
                   exact ⟨_, fun w h => h, .inr ⟨3, (a : Int) + 1, _, hf, rfl, rfl⟩⟩)
                | (have hb2 : ¬ t = [] := of_decide_eq_false hb.symm
                   rw [if_neg hb2, if_neg (by omega), if_pos (by omega)] at hf
                   exact ⟨_, fun w h => h, .inr ⟨340, (a : Int) + 1 + z, _, hf, rfl, rfl⟩⟩)
                | (have hb2 : ¬ t = [] := of_decide_eq_false hb.symm
                   rw [if_neg hb2, if_neg (by omega), if_neg (by omega)] at hf
                   exact ⟨_, fun w h => h, .inl ⟨t, hf, rfl, rfl⟩⟩)
            case' hf =>
              intro h
              try (first | (exfalso; omega) | (cases h; done) | (exfalso; simp at h; done) | subst h)
              all_goals
                refine J.skip ?_
    all_goals refine JE.block_normal ?_
    all_goals refine JE.then_normal ?_
    all_goals
      refine J.seq ?_
      refine J.region ?_
      refine JL.step (y_move rfl) rfl rfl rfl (JL.step (y_move rfl) rfl rfl rfl ?_)
      refine JL.step ((by first | exact y_nilCheck rfl | exact y_nilCheckF rfl | exact y_nilCheckY rfl)) rfl rfl rfl ?_
      refine JL.step (y_fieldAddr hT rfl rfl rfl rfl rfl rfl) rfl rfl rfl ?_
      refine JL.step (y_load1 hT rfl rfl rfl (by (exact Rd1.row (by (repeat (first | exact Pick.head | apply Pick.tail | apply Pick.app))) (by rfl)))) rfl rfl rfl ?_
      refine JL.step (y_lenS hT rfl rfl rfl) rfl rfl rfl ?_
      refine JL.step ((by first | exact y_nilCheck rfl | exact y_nilCheckF rfl | exact y_nilCheckY rfl)) rfl rfl rfl ?_
      refine JL.step (y_fieldAddr hT rfl rfl rfl rfl rfl rfl) rfl rfl rfl ?_
      refine JL.loud rfl (l_store1 hT rfl rfl rfl rfl rfl (by (repeat (first | exact Pick.head | apply Pick.tail | apply Pick.app))) (by (first | omega | exact Nat.le_of_ble_eq_true rfl | decide | (simp; omega))) ?_)
      refine JL.nil ?_
      refine JE.then_normal ?_
      refine J.seq ?_
      refine J.region ?_
      refine JL.step (y_assign rfl) rfl rfl rfl ?_
      refine JL.nil ?_
      refine JE.then_normal ?_
      refine J.ret ?_
      refine JE.ret1 (.inl rfl) rfl rfl (by (first | exact RV.tmp rfl | exact RV.cell1 hT rfl rfl rfl (by (exact Rd1.row (by (repeat (first | exact Pick.head | apply Pick.tail | apply Pick.app))) (by rfl))) | exact RV.cellN hT rfl rfl rfl (by (first | exact RdN.rowAll (by (repeat (first | exact Pick.head | apply Pick.tail | apply Pick.app))) | exact RdN.own (by (repeat (first | exact Pick.head | apply Pick.tail | apply Pick.app))))) (by (first | rfl | assumption | (simp; done) | omega)))) ?_
      first
      | (have hf : txtF xs a = .error (340, (a : Int)) := by unfold txtF; rw [if_pos (by omega)]
         exact ⟨_, fun w h => h, .inr ⟨340, a, c, hf, rfl, rfl⟩⟩)
      | (have hb2 : t = [] := of_decide_eq_true hb.symm
         rw [if_pos hb2] at hf
         exact ⟨_, fun w h => h, .inr ⟨340, (a : Int) + 1, _, hf, rfl, rfl⟩⟩)
      | (have hb2 : ¬ t = [] := of_decide_eq_false hb.symm
         rw [if_neg hb2, if_pos (by omega)] at hf
         exact ⟨_, fun w h => h, .inr ⟨3, (a : Int) + 1, _, hf, rfl, rfl⟩⟩)
      | (have hb2 : ¬ t = [] := of_decide_eq_false hb.symm
         rw [if_neg hb2, if_neg (by omega), if_pos (by omega)] at hf
         exact ⟨_, fun w h => h, .inr ⟨340, (a : Int) + 1 + z, _, hf, rfl, rfl⟩⟩)
      | (have hb2 : ¬ t = [] := of_decide_eq_false hb.symm
         rw [if_neg hb2, if_neg (by omega), if_neg (by omega)] at hf
         exact ⟨_, fun w h => h, .inl ⟨t, hf, rfl, rfl⟩⟩)
end
end
section
open Go Go.SL
section
/-- What the reader has when a command's rest is read. -/
def RestR (rb cb : Nat) (xs : List Int) (a : Nat) (k : Int) (l : List HProp) (v : Value) (l' : List HProp) : Prop :=
  (∃ a' c', restF xs a k = .ok (a', c') ∧ a' ≤ xs.length ∧ v = .bool true ∧ l' = row rb 65 (rdE xs a' 0 0) :: row cb 27 (cmE c') :: l) ∨
  (∃ e p a' c', restF xs a k = .error (e, p) ∧ v = .bool false ∧ l' = row rb 65 (rdE xs a' e p) :: row cb 27 (cmE c') :: l)
theorem restF_1 {xs : List Int} {a : Nat} {k : Int} (h : k = 1 ∨ k = 3) : restF xs a k = .ok (a, ⟨k, [], zer32, [], 0⟩) := by unfold restF; rw [if_pos h]
theorem restF_n {xs : List Int} {a : Nat} {k : Int} (h : ¬ (k = 1 ∨ k = 3)) (hn : nextB xs a nameB = false) : restF xs a k = .error (340, nextP xs a) := by unfold restF; rw [if_neg h, if_pos hn]
end
section
attribute [local irreducible] J JL JE JM LS Y Fc RV Code.wp wpList Code.wpIn wpListIn
attribute [local irreducible] Yc strOf valD dig
variable (E : World)
theorem rest_spec (rb cb : Nat) (xs : List Int) (a : Nat) (k : Int) (l : List HProp) (hB : Bys xs) (hl : xs.length ≤ 1000000) (ha : a ≤ xs.length) (hK : K24 E l) :
    Fc prog E 37 [.pointer (some ⟨rb, 0, none⟩), .pointer (some ⟨cb, 0, none⟩)].toArray (row rb 65 (rdE xs a 0 0) :: row cb 27 (cmE ⟨k, [], zer32, [], 0⟩) :: l) (RestR rb cb xs a k l) := by
  refine Fc.post ?_
  have hk0 : ∀ n, (CmT.mk k n zer32 [] 0).key.length = 32 := fun _ => rfl
  obtain ⟨b, hb⟩ : ∃ b, a + 1 + (partAt xs a).length = b := ⟨_, rfl⟩
  refine Fc.of_body (c := ?codeC) Tryz.func37 ?hb Tryz.ntmps37 ?hl ?_
  case hb => exact rfl
  case hl => exact rfl
  refine J.seq ?_
  refine J.region ?_
  refine JL.loud rfl (l_box rfl (by (first | rfl | simp)) rfl (fun b1 => ?_))
  refine JL.step (y_assign rfl) rfl rfl rfl ?_
  refine JL.nil ?_
  refine JE.then_normal ?_
  refine J.seq ?_
  refine J.region ?_
  refine JL.pre (l' := row rb 65 (rdE xs a 0 0) :: boxL b1 cb ⟨k, [], zer32, [], 0⟩ l) (fun w h => by unfold boxL; exact h.sup (by (repeat (first | exact Sup.refl | apply Sup.cons (by (repeat (first | exact Pick.head | apply Pick.tail | apply Pick.app))) | apply Sup.app | apply Sup.skip | apply Sup.skips)))) ?_
  refine JL.step (y_makeFunc rfl rfl) rfl rfl rfl (JL.step (y_assign rfl) rfl rfl rfl ?_)
  refine JL.nil ?_
  refine JE.then_normal ?_
  refine J.seq ?_
  refine J.seq ?_
  refine J.region ?_
  refine JL.step (y_load1 hT rfl rfl rfl (by (exact Rd1.row (by (repeat (first | exact Pick.head | apply Pick.tail | apply Pick.app))) (by rfl)))) rfl rfl rfl ?_
  refine JL.step ((by first | exact y_nilCheck rfl | exact y_nilCheckF rfl | exact y_nilCheckY rfl)) rfl rfl rfl ?_
  refine JL.step (y_fieldAddr hT rfl rfl rfl rfl rfl rfl) rfl rfl rfl ?_
  refine JL.step (v := .int .i64 k) (y_load1 hT rfl rfl rfl (Rd1.row (by (repeat (first | exact Pick.head | apply Pick.tail | apply Pick.app))) rfl)) rfl rfl rfl ?_
  refine JL.nil ?_
  refine JE.then_normal ?_
  refine J.block ?_
  refine J.seq ?_
  refine J.seq ?_
  refine J.region ?_
  refine JL.step (y_eql rfl rfl) rfl rfl rfl (JL.step (y_assign rfl) rfl rfl rfl ?_)
  refine JL.nil ?_
  refine JE.then_normal ?_
  first | apply J.cond_dec rfl | apply J.cond rfl
  case' ht =>
    intro h
    try (first | (exfalso; omega) | (cases h; done) | (exfalso; simp at h; done) | subst h)
    all_goals
      refine J.skip ?_
  case' hf =>
    intro h
    try (first | (exfalso; omega) | (cases h; done) | (exfalso; simp at h; done) | subst h)
    all_goals
      refine J.region ?_
      refine JL.step (y_eql rfl rfl) rfl rfl rfl (JL.step (y_assign rfl) rfl rfl rfl ?_)
      refine JL.nil ?_
  all_goals refine JE.then_normal ?_
  all_goals
    first | apply J.cond_dec rfl | apply J.cond rfl
    case' ht =>
      intro h
      try (first | (exfalso; omega) | (cases h; done) | (exfalso; simp at h; done) | subst h)
      all_goals
        refine J.seq ?_
        refine J.region ?_
        refine JL.step (y_assign rfl) rfl rfl rfl ?_
        refine JL.nil ?_
        refine JE.then_normal ?_
        refine J.ret ?_
        refine JE.block_ret ?_
        refine JE.then_ret ?_
        refine JE.ret1 (.inl rfl) rfl rfl (by (first | exact RV.tmp rfl | exact RV.cell1 hT rfl rfl rfl (by (exact Rd1.row (by (repeat (first | exact Pick.head | apply Pick.tail | apply Pick.app))) (by rfl))) | exact RV.cellN hT rfl rfl rfl (by (first | exact RdN.rowAll (by (repeat (first | exact Pick.head | apply Pick.tail | apply Pick.app))) | exact RdN.own (by (repeat (first | exact Pick.head | apply Pick.tail | apply Pick.app))))) (by (first | rfl | assumption | (simp; done) | omega)))) ?_
        first
        | exact ⟨_, (fun w h => by unfold boxL at h; exact h.sup (by (repeat (first | exact Sup.refl | apply Sup.cons (by (repeat (first | exact Pick.head | apply Pick.tail | apply Pick.app))) | apply Sup.app | apply Sup.skip | apply Sup.skips)))), .inl ⟨a, _, restF_1 (by simp), ha, rfl, rfl⟩⟩
        | (have zz : nextB xs b keyB = false → _ := hn3
           have hbf : nextB xs a nameB = true := hbq
           rcases hbq3 : nextB xs b keyB with _ | _
           · rcases hn3 hbq3 with h | ⟨_, rfl, h⟩
             all_goals (subst h; exact ⟨_, (fun w h => by unfold boxL at h; exact h.sup (by (repeat (first | exact Sup.refl | apply Sup.cons (by (repeat (first | exact Pick.head | apply Pick.tail | apply Pick.app))) | apply Sup.app | apply Sup.skip | apply Sup.skips)))), .inr ⟨340, nextP xs b, b, _, by simp [restF, hbf, hb, hbq3], rfl, rfl⟩⟩)
           · obtain ⟨hlt3, hnb3, _, rfl, rfl⟩ := hy3 hbq3
             rw [if_pos hnb3]
             exact ⟨_, (fun w h => by unfold boxL at h; exact h.sup (by (repeat (first | exact Sup.refl | apply Sup.cons (by (repeat (first | exact Pick.head | apply Pick.tail | apply Pick.app))) | apply Sup.app | apply Sup.skip | apply Sup.skips)))), .inl ⟨_, _, by simp [restF, hbf, hb, hbq3], partAt_le hlt3, rfl, rfl⟩⟩)
        | (have zz : nextB xs b numB = false → _ := hn3
           have hbf : nextB xs a nameB = true := hbq
           rcases hbq3 : nextB xs b numB with _ | _
           · rcases hn3 hbq3 with h | ⟨_, ⟨z, _, rfl⟩, h⟩
             all_goals (subst h; exact ⟨_, (fun w h => by unfold boxL at h; exact h.sup (by (repeat (first | exact Sup.refl | apply Sup.cons (by (repeat (first | exact Pick.head | apply Pick.tail | apply Pick.app))) | apply Sup.app | apply Sup.skip | apply Sup.skips)))), .inr ⟨340, nextP xs b, b, _, by simp [restF, hbf, hb, hbq3], rfl, rfl⟩⟩)
           · obtain ⟨hlt3, hnb3, _, ⟨z, hz, rfl⟩, rfl⟩ := hy3 hbq3
             rw [hz hnb3]
             exact ⟨_, (fun w h => by unfold boxL at h; exact h.sup (by (repeat (first | exact Sup.refl | apply Sup.cons (by (repeat (first | exact Pick.head | apply Pick.tail | apply Pick.app))) | apply Sup.app | apply Sup.skip | apply Sup.skips)))), .inl ⟨_, _, by simp [restF, hbf, hb, hbq3], partAt_le hlt3, rfl, rfl⟩⟩)
        | (have zz := hT3
           have hbf : nextB xs a nameB = true := hbq
           rcases hT3 with ⟨t, ht, rfl, rfl⟩ | ⟨e, p, c2, ht, rfl, rfl⟩
           · exact ⟨_, fun w h => h, .inl ⟨xs.length, _, by simp [restF, hbf, hb, ht], Nat.le_refl _, rfl, rfl⟩⟩
           · exact ⟨_, fun w h => h, .inr ⟨e, p, b, c2, by simp [restF, hbf, hb, ht], rfl, rfl⟩⟩)
        | (have hbf : nextB xs a nameB = false := hbq
           exact ⟨_, (fun w h => by unfold boxL at h; exact h.sup (by (repeat (first | exact Sup.refl | apply Sup.cons (by (repeat (first | exact Pick.head | apply Pick.tail | apply Pick.app))) | apply Sup.app | apply Sup.skip | apply Sup.skips)))), .inr ⟨340, nextP xs a, a, _, restF_n (by omega) hbf, rfl, rfl⟩⟩)
        | (rcases hbq : nextB xs a nameB with _ | _
           · rcases hn hbq with h | ⟨_, rfl, h⟩
             all_goals (subst h; exact ⟨_, (fun w h => by unfold boxL at h; exact h.sup (by (repeat (first | exact Sup.refl | apply Sup.cons (by (repeat (first | exact Pick.head | apply Pick.tail | apply Pick.app))) | apply Sup.app | apply Sup.skip | apply Sup.skips)))), .inr ⟨340, nextP xs a, a, _, restF_n (by omega) hbq, rfl, rfl⟩⟩)
           · obtain ⟨hlt, hnb, _, rfl, rfl⟩ := hy hbq
             have hble := partAt_le hlt
             rw [hb] at hble ⊢
             refine ⟨_, (fun w h => by unfold boxL at h; exact h.sup (by (repeat (first | exact Sup.refl | apply Sup.cons (by (repeat (first | exact Pick.head | apply Pick.tail | apply Pick.app))) | apply Sup.app | apply Sup.skip | apply Sup.skips)))), .inl ⟨b, _, ?_, hble, rfl, rfl⟩⟩
             unfold restF
             rw [if_neg (by omega), if_neg (by rw [hbq]; decide)]
             simp only [hb]
             rw [if_neg (by omega), if_neg (by omega), if_neg (by omega)])
    case' hf =>
      intro h
      try (first | (exfalso; omega) | (cases h; done) | (exfalso; simp at h; done) | subst h)
      all_goals
        refine J.seq ?_
        refine J.region ?_
        refine JL.step (y_eql rfl rfl) rfl rfl rfl (JL.step (y_assign rfl) rfl rfl rfl ?_)
        refine JL.nil ?_
        refine JE.then_normal ?_
        first | apply J.cond_dec rfl | apply J.cond rfl
        case' ht =>
          intro h
          try (first | (exfalso; omega) | (cases h; done) | (exfalso; simp at h; done) | subst h)
          all_goals
            refine J.seq ?_
            refine J.region ?_
            refine JL.step (y_move rfl) rfl rfl rfl (JL.step (y_move rfl) rfl rfl rfl ?_)
            refine JL.loud rfl (l_callF e65 rfl rfl (next_spec E rb xs a 63 e63 [.pointer (some ⟨b1, 0, none⟩)] nameB (boxL b1 cb ⟨2, [], zer32, [], 0⟩ l) (fun p m => m = boxL b1 cb ⟨2, p, zer32, [], 0⟩ l) hB hl ha (fun p hp hpl => rest1_spec E _ b1 cb ⟨2, [], zer32, [], 0⟩ p l rfl hp (by omega))) ?_)
            rintro v2 l2 ⟨rfl, hy, hn⟩
            rcases hbq : nextB xs a nameB with _ | _
            all_goals first
              | (have hz9 : nextB xs a nameB = true := hbq
                 obtain ⟨hlt, hnb, _, rfl, rfl⟩ := hy hz9
                 have hble := partAt_le hlt
                 rw [hb] at hble ⊢
                 refine JL.step (y_move rfl) rfl rfl rfl ?_)
              | (obtain ⟨c', rfl⟩ : ∃ c', l2 = row rb 65 (rdE xs a 340 (nextP xs a)) :: boxL b1 cb c' l := by
                   rcases hn hbq with h | ⟨_, rfl, h⟩
                   · exact ⟨_, h⟩
                   · exact ⟨_, h⟩
                 refine JL.step (y_move rfl) rfl rfl rfl ?_)
            all_goals (first | (refine JL.gsplit_dec rfl rfl rfl (fun h => ?_) (fun h => ?_) <;> try (first | (exfalso; omega) | exact absurd rfl h)) | (refine JL.gsplit rfl rfl rfl (fun h => ?_) (fun h => ?_) <;> try (first | cases h | (exfalso; simp at h; done))) | skip)
            all_goals (first | refine JL.gskip rfl rfl rfl rfl rfl rfl ?_ | refine JL.gskipU rfl rfl rfl rfl rfl ?_ | refine JL.gstep rfl rfl rfl (y_move rfl) rfl rfl ?_)
            all_goals (first | refine JL.gskip rfl rfl rfl rfl rfl rfl ?_ | refine JL.gskipU rfl rfl rfl rfl rfl ?_ | refine JL.gstep rfl rfl rfl (y_makeFunc rfl rfl) rfl rfl ?_)
            all_goals (first | refine JL.gskip rfl rfl rfl rfl rfl rfl ?_ | refine JL.gskipU rfl rfl rfl rfl rfl ?_ | (refine JL.gloud rfl rfl rfl (l_callF e65 rfl rfl (next_spec E rb xs b 66 e66 [.pointer (some ⟨b1, 0, none⟩)] keyB (boxL b1 cb ⟨2, partAt xs a, zer32, [], 0⟩ l) (fun p m => m = boxL b1 cb ⟨2, partAt xs a, if keyB p then keyV p else zer32, [], 0⟩ l) hB hl hble (fun p hp hpl => rest2_spec E _ b1 cb ⟨2, partAt xs a, zer32, [], 0⟩ p l rfl hp (by omega))) ?_); rintro v3 l3 ⟨rfl, hy3, hn3⟩))
            all_goals (refine JL.step (y_pick rfl rfl rfl) rfl rfl rfl ?_)
            all_goals (refine JL.step (y_assign rfl) rfl rfl rfl ?_)
            all_goals refine JL.nil ?_
            all_goals refine JE.then_normal ?_
            all_goals
              refine J.ret ?_
              refine JE.block_ret ?_
              refine JE.then_ret ?_
              refine JE.ret1 (.inl rfl) rfl rfl (by (first | exact RV.tmp rfl | exact RV.cell1 hT rfl rfl rfl (by (exact Rd1.row (by (repeat (first | exact Pick.head | apply Pick.tail | apply Pick.app))) (by rfl))) | exact RV.cellN hT rfl rfl rfl (by (first | exact RdN.rowAll (by (repeat (first | exact Pick.head | apply Pick.tail | apply Pick.app))) | exact RdN.own (by (repeat (first | exact Pick.head | apply Pick.tail | apply Pick.app))))) (by (first | rfl | assumption | (simp; done) | omega)))) ?_
              first
              | exact ⟨_, (fun w h => by unfold boxL at h; exact h.sup (by (repeat (first | exact Sup.refl | apply Sup.cons (by (repeat (first | exact Pick.head | apply Pick.tail | apply Pick.app))) | apply Sup.app | apply Sup.skip | apply Sup.skips)))), .inl ⟨a, _, restF_1 (by simp), ha, rfl, rfl⟩⟩
              | (have zz : nextB xs b keyB = false → _ := hn3
                 have hbf : nextB xs a nameB = true := hbq
                 rcases hbq3 : nextB xs b keyB with _ | _
                 · rcases hn3 hbq3 with h | ⟨_, rfl, h⟩
                   all_goals (subst h; exact ⟨_, (fun w h => by unfold boxL at h; exact h.sup (by (repeat (first | exact Sup.refl | apply Sup.cons (by (repeat (first | exact Pick.head | apply Pick.tail | apply Pick.app))) | apply Sup.app | apply Sup.skip | apply Sup.skips)))), .inr ⟨340, nextP xs b, b, _, by simp [restF, hbf, hb, hbq3], rfl, rfl⟩⟩)
                 · obtain ⟨hlt3, hnb3, _, rfl, rfl⟩ := hy3 hbq3
                   rw [if_pos hnb3]
                   exact ⟨_, (fun w h => by unfold boxL at h; exact h.sup (by (repeat (first | exact Sup.refl | apply Sup.cons (by (repeat (first | exact Pick.head | apply Pick.tail | apply Pick.app))) | apply Sup.app | apply Sup.skip | apply Sup.skips)))), .inl ⟨_, _, by simp [restF, hbf, hb, hbq3], partAt_le hlt3, rfl, rfl⟩⟩)
              | (have zz : nextB xs b numB = false → _ := hn3
                 have hbf : nextB xs a nameB = true := hbq
                 rcases hbq3 : nextB xs b numB with _ | _
                 · rcases hn3 hbq3 with h | ⟨_, ⟨z, _, rfl⟩, h⟩
                   all_goals (subst h; exact ⟨_, (fun w h => by unfold boxL at h; exact h.sup (by (repeat (first | exact Sup.refl | apply Sup.cons (by (repeat (first | exact Pick.head | apply Pick.tail | apply Pick.app))) | apply Sup.app | apply Sup.skip | apply Sup.skips)))), .inr ⟨340, nextP xs b, b, _, by simp [restF, hbf, hb, hbq3], rfl, rfl⟩⟩)
                 · obtain ⟨hlt3, hnb3, _, ⟨z, hz, rfl⟩, rfl⟩ := hy3 hbq3
                   rw [hz hnb3]
                   exact ⟨_, (fun w h => by unfold boxL at h; exact h.sup (by (repeat (first | exact Sup.refl | apply Sup.cons (by (repeat (first | exact Pick.head | apply Pick.tail | apply Pick.app))) | apply Sup.app | apply Sup.skip | apply Sup.skips)))), .inl ⟨_, _, by simp [restF, hbf, hb, hbq3], partAt_le hlt3, rfl, rfl⟩⟩)
              | (have zz := hT3
                 have hbf : nextB xs a nameB = true := hbq
                 rcases hT3 with ⟨t, ht, rfl, rfl⟩ | ⟨e, p, c2, ht, rfl, rfl⟩
                 · exact ⟨_, fun w h => h, .inl ⟨xs.length, _, by simp [restF, hbf, hb, ht], Nat.le_refl _, rfl, rfl⟩⟩
                 · exact ⟨_, fun w h => h, .inr ⟨e, p, b, c2, by simp [restF, hbf, hb, ht], rfl, rfl⟩⟩)
              | (have hbf : nextB xs a nameB = false := hbq
                 exact ⟨_, (fun w h => by unfold boxL at h; exact h.sup (by (repeat (first | exact Sup.refl | apply Sup.cons (by (repeat (first | exact Pick.head | apply Pick.tail | apply Pick.app))) | apply Sup.app | apply Sup.skip | apply Sup.skips)))), .inr ⟨340, nextP xs a, a, _, restF_n (by omega) hbf, rfl, rfl⟩⟩)
              | (rcases hbq : nextB xs a nameB with _ | _
                 · rcases hn hbq with h | ⟨_, rfl, h⟩
                   all_goals (subst h; exact ⟨_, (fun w h => by unfold boxL at h; exact h.sup (by (repeat (first | exact Sup.refl | apply Sup.cons (by (repeat (first | exact Pick.head | apply Pick.tail | apply Pick.app))) | apply Sup.app | apply Sup.skip | apply Sup.skips)))), .inr ⟨340, nextP xs a, a, _, restF_n (by omega) hbq, rfl, rfl⟩⟩)
                 · obtain ⟨hlt, hnb, _, rfl, rfl⟩ := hy hbq
                   have hble := partAt_le hlt
                   rw [hb] at hble ⊢
                   refine ⟨_, (fun w h => by unfold boxL at h; exact h.sup (by (repeat (first | exact Sup.refl | apply Sup.cons (by (repeat (first | exact Pick.head | apply Pick.tail | apply Pick.app))) | apply Sup.app | apply Sup.skip | apply Sup.skips)))), .inl ⟨b, _, ?_, hble, rfl, rfl⟩⟩
                   unfold restF
                   rw [if_neg (by omega), if_neg (by rw [hbq]; decide)]
                   simp only [hb]
                   rw [if_neg (by omega), if_neg (by omega), if_neg (by omega)])
        case' hf =>
          intro h
          try (first | (exfalso; omega) | (cases h; done) | (exfalso; simp at h; done) | subst h)
          all_goals
            refine J.seq ?_
            refine J.region ?_
            refine JL.step (y_eql rfl rfl) rfl rfl rfl (JL.step (y_assign rfl) rfl rfl rfl ?_)
            refine JL.nil ?_
            refine JE.then_normal ?_
            first | apply J.cond_dec rfl | apply J.cond rfl
            case' ht =>
              intro h
              try (first | (exfalso; omega) | (cases h; done) | (exfalso; simp at h; done) | subst h)
              all_goals
                refine J.seq ?_
                refine J.region ?_
                refine JL.step (y_move rfl) rfl rfl rfl (JL.step (y_move rfl) rfl rfl rfl ?_)
                refine JL.loud rfl (l_callF e65 rfl rfl (next_spec E rb xs a 63 e63 [.pointer (some ⟨b1, 0, none⟩)] nameB (boxL b1 cb ⟨6, [], zer32, [], 0⟩ l) (fun p m => m = boxL b1 cb ⟨6, p, zer32, [], 0⟩ l) hB hl ha (fun p hp hpl => rest1_spec E _ b1 cb ⟨6, [], zer32, [], 0⟩ p l rfl hp (by omega))) ?_)
                rintro v2 l2 ⟨rfl, hy, hn⟩
                rcases hbq : nextB xs a nameB with _ | _
                all_goals first
                  | (have hz9 : nextB xs a nameB = true := hbq
                     obtain ⟨hlt, hnb, _, rfl, rfl⟩ := hy hz9
                     have hble := partAt_le hlt
                     rw [hb] at hble ⊢
                     refine JL.step (y_move rfl) rfl rfl rfl ?_)
                  | (obtain ⟨c', rfl⟩ : ∃ c', l2 = row rb 65 (rdE xs a 340 (nextP xs a)) :: boxL b1 cb c' l := by
                       rcases hn hbq with h | ⟨_, rfl, h⟩
                       · exact ⟨_, h⟩
                       · exact ⟨_, h⟩
                     refine JL.step (y_move rfl) rfl rfl rfl ?_)
                all_goals (first | (refine JL.gsplit_dec rfl rfl rfl (fun h => ?_) (fun h => ?_) <;> try (first | (exfalso; omega) | exact absurd rfl h)) | (refine JL.gsplit rfl rfl rfl (fun h => ?_) (fun h => ?_) <;> try (first | cases h | (exfalso; simp at h; done))) | skip)
                all_goals (first | refine JL.gskip rfl rfl rfl rfl rfl rfl ?_ | refine JL.gskipU rfl rfl rfl rfl rfl ?_ | refine JL.gstep rfl rfl rfl (y_move rfl) rfl rfl ?_)
                all_goals (first | refine JL.gskip rfl rfl rfl rfl rfl rfl ?_ | refine JL.gskipU rfl rfl rfl rfl rfl ?_ | refine JL.gstep rfl rfl rfl (y_makeFunc rfl rfl) rfl rfl ?_)
                all_goals (first | refine JL.gskip rfl rfl rfl rfl rfl rfl ?_ | refine JL.gskipU rfl rfl rfl rfl rfl ?_ | (refine JL.gloud rfl rfl rfl (l_callF e65 rfl rfl (next_spec E rb xs b 68 e68 [.pointer (some ⟨b1, 0, none⟩)] numB (boxL b1 cb ⟨6, partAt xs a, zer32, [], 0⟩ l) (fun p m => ∃ z : Int, (numB p = true → z = valD p) ∧ m = boxL b1 cb ⟨6, partAt xs a, zer32, [], z⟩ l) hB hl hble (fun p hp hpl => rest3_spec E _ b1 cb ⟨6, partAt xs a, zer32, [], 0⟩ p l rfl hp (by omega) hK)) ?_); rintro v3 l3 ⟨rfl, hy3, hn3⟩))
                all_goals (refine JL.step (y_pick rfl rfl rfl) rfl rfl rfl ?_)
                all_goals (refine JL.step (y_assign rfl) rfl rfl rfl ?_)
                all_goals refine JL.nil ?_
                all_goals refine JE.then_normal ?_
                all_goals
                  refine J.ret ?_
                  refine JE.block_ret ?_
                  refine JE.then_ret ?_
                  refine JE.ret1 (.inl rfl) rfl rfl (by (first | exact RV.tmp rfl | exact RV.cell1 hT rfl rfl rfl (by (exact Rd1.row (by (repeat (first | exact Pick.head | apply Pick.tail | apply Pick.app))) (by rfl))) | exact RV.cellN hT rfl rfl rfl (by (first | exact RdN.rowAll (by (repeat (first | exact Pick.head | apply Pick.tail | apply Pick.app))) | exact RdN.own (by (repeat (first | exact Pick.head | apply Pick.tail | apply Pick.app))))) (by (first | rfl | assumption | (simp; done) | omega)))) ?_
                  first
                  | exact ⟨_, (fun w h => by unfold boxL at h; exact h.sup (by (repeat (first | exact Sup.refl | apply Sup.cons (by (repeat (first | exact Pick.head | apply Pick.tail | apply Pick.app))) | apply Sup.app | apply Sup.skip | apply Sup.skips)))), .inl ⟨a, _, restF_1 (by simp), ha, rfl, rfl⟩⟩
                  | (have zz : nextB xs b keyB = false → _ := hn3
                     have hbf : nextB xs a nameB = true := hbq
                     rcases hbq3 : nextB xs b keyB with _ | _
                     · rcases hn3 hbq3 with h | ⟨_, rfl, h⟩
                       all_goals (subst h; exact ⟨_, (fun w h => by unfold boxL at h; exact h.sup (by (repeat (first | exact Sup.refl | apply Sup.cons (by (repeat (first | exact Pick.head | apply Pick.tail | apply Pick.app))) | apply Sup.app | apply Sup.skip | apply Sup.skips)))), .inr ⟨340, nextP xs b, b, _, by simp [restF, hbf, hb, hbq3], rfl, rfl⟩⟩)
                     · obtain ⟨hlt3, hnb3, _, rfl, rfl⟩ := hy3 hbq3
                       rw [if_pos hnb3]
                       exact ⟨_, (fun w h => by unfold boxL at h; exact h.sup (by (repeat (first | exact Sup.refl | apply Sup.cons (by (repeat (first | exact Pick.head | apply Pick.tail | apply Pick.app))) | apply Sup.app | apply Sup.skip | apply Sup.skips)))), .inl ⟨_, _, by simp [restF, hbf, hb, hbq3], partAt_le hlt3, rfl, rfl⟩⟩)
                  | (have zz : nextB xs b numB = false → _ := hn3
                     have hbf : nextB xs a nameB = true := hbq
                     rcases hbq3 : nextB xs b numB with _ | _
                     · rcases hn3 hbq3 with h | ⟨_, ⟨z, _, rfl⟩, h⟩
                       all_goals (subst h; exact ⟨_, (fun w h => by unfold boxL at h; exact h.sup (by (repeat (first | exact Sup.refl | apply Sup.cons (by (repeat (first | exact Pick.head | apply Pick.tail | apply Pick.app))) | apply Sup.app | apply Sup.skip | apply Sup.skips)))), .inr ⟨340, nextP xs b, b, _, by simp [restF, hbf, hb, hbq3], rfl, rfl⟩⟩)
                     · obtain ⟨hlt3, hnb3, _, ⟨z, hz, rfl⟩, rfl⟩ := hy3 hbq3
                       rw [hz hnb3]
                       exact ⟨_, (fun w h => by unfold boxL at h; exact h.sup (by (repeat (first | exact Sup.refl | apply Sup.cons (by (repeat (first | exact Pick.head | apply Pick.tail | apply Pick.app))) | apply Sup.app | apply Sup.skip | apply Sup.skips)))), .inl ⟨_, _, by simp [restF, hbf, hb, hbq3], partAt_le hlt3, rfl, rfl⟩⟩)
                  | (have zz := hT3
                     have hbf : nextB xs a nameB = true := hbq
                     rcases hT3 with ⟨t, ht, rfl, rfl⟩ | ⟨e, p, c2, ht, rfl, rfl⟩
                     · exact ⟨_, fun w h => h, .inl ⟨xs.length, _, by simp [restF, hbf, hb, ht], Nat.le_refl _, rfl, rfl⟩⟩
                     · exact ⟨_, fun w h => h, .inr ⟨e, p, b, c2, by simp [restF, hbf, hb, ht], rfl, rfl⟩⟩)
                  | (have hbf : nextB xs a nameB = false := hbq
                     exact ⟨_, (fun w h => by unfold boxL at h; exact h.sup (by (repeat (first | exact Sup.refl | apply Sup.cons (by (repeat (first | exact Pick.head | apply Pick.tail | apply Pick.app))) | apply Sup.app | apply Sup.skip | apply Sup.skips)))), .inr ⟨340, nextP xs a, a, _, restF_n (by omega) hbf, rfl, rfl⟩⟩)
                  | (rcases hbq : nextB xs a nameB with _ | _
                     · rcases hn hbq with h | ⟨_, rfl, h⟩
                       all_goals (subst h; exact ⟨_, (fun w h => by unfold boxL at h; exact h.sup (by (repeat (first | exact Sup.refl | apply Sup.cons (by (repeat (first | exact Pick.head | apply Pick.tail | apply Pick.app))) | apply Sup.app | apply Sup.skip | apply Sup.skips)))), .inr ⟨340, nextP xs a, a, _, restF_n (by omega) hbq, rfl, rfl⟩⟩)
                     · obtain ⟨hlt, hnb, _, rfl, rfl⟩ := hy hbq
                       have hble := partAt_le hlt
                       rw [hb] at hble ⊢
                       refine ⟨_, (fun w h => by unfold boxL at h; exact h.sup (by (repeat (first | exact Sup.refl | apply Sup.cons (by (repeat (first | exact Pick.head | apply Pick.tail | apply Pick.app))) | apply Sup.app | apply Sup.skip | apply Sup.skips)))), .inl ⟨b, _, ?_, hble, rfl, rfl⟩⟩
                       unfold restF
                       rw [if_neg (by omega), if_neg (by rw [hbq]; decide)]
                       simp only [hb]
                       rw [if_neg (by omega), if_neg (by omega), if_neg (by omega)])
            case' hf =>
              intro h
              try (first | (exfalso; omega) | (cases h; done) | (exfalso; simp at h; done) | subst h)
              all_goals
                refine J.seq ?_
                refine J.region ?_
                refine JL.step (y_eql rfl rfl) rfl rfl rfl (JL.step (y_assign rfl) rfl rfl rfl ?_)
                refine JL.nil ?_
                refine JE.then_normal ?_
                first | apply J.cond_dec rfl | apply J.cond rfl
                case' ht =>
                  intro h
                  try (first | (exfalso; omega) | (cases h; done) | (exfalso; simp at h; done) | subst h)
                  all_goals
                    refine J.seq ?_
                    refine J.region ?_
                    refine JL.step (y_move rfl) rfl rfl rfl (JL.step (y_move rfl) rfl rfl rfl ?_)
                    refine JL.loud rfl (l_callF e65 rfl rfl (next_spec E rb xs a 63 e63 [.pointer (some ⟨b1, 0, none⟩)] nameB (boxL b1 cb ⟨4, [], zer32, [], 0⟩ l) (fun p m => m = boxL b1 cb ⟨4, p, zer32, [], 0⟩ l) hB hl ha (fun p hp hpl => rest1_spec E _ b1 cb ⟨4, [], zer32, [], 0⟩ p l rfl hp (by omega))) ?_)
                    rintro v2 l2 ⟨rfl, hy, hn⟩
                    rcases hbq : nextB xs a nameB with _ | _
                    all_goals first
                      | (have hz9 : nextB xs a nameB = true := hbq
                         obtain ⟨hlt, hnb, _, rfl, rfl⟩ := hy hz9
                         have hble := partAt_le hlt
                         rw [hb] at hble ⊢
                         refine JL.step (y_move rfl) rfl rfl rfl ?_)
                      | (obtain ⟨c', rfl⟩ : ∃ c', l2 = row rb 65 (rdE xs a 340 (nextP xs a)) :: boxL b1 cb c' l := by
                           rcases hn hbq with h | ⟨_, rfl, h⟩
                           · exact ⟨_, h⟩
                           · exact ⟨_, h⟩
                         refine JL.step (y_move rfl) rfl rfl rfl ?_)
                    all_goals (first | (refine JL.gsplit_dec rfl rfl rfl (fun h => ?_) (fun h => ?_) <;> try (first | (exfalso; omega) | exact absurd rfl h)) | (refine JL.gsplit rfl rfl rfl (fun h => ?_) (fun h => ?_) <;> try (first | cases h | (exfalso; simp at h; done))) | skip)
                    all_goals (first | refine JL.gskip rfl rfl rfl rfl rfl rfl ?_ | refine JL.gskipU rfl rfl rfl rfl rfl ?_ | refine JL.gstep rfl rfl rfl (y_move rfl) rfl rfl ?_)
                    all_goals (first | refine JL.gskip rfl rfl rfl rfl rfl rfl ?_ | refine JL.gskipU rfl rfl rfl rfl rfl ?_ | refine JL.gstep rfl rfl rfl (y_load1 hT rfl rfl rfl (by (exact Rd1.row (by (repeat (first | exact Pick.head | apply Pick.tail | apply Pick.app))) (by rfl)))) rfl rfl ?_)
                    all_goals (first | (have zz := hnb; refine JL.pre (l' := row rb 65 (rdE xs b 0 0) :: row cb 27 (cmE ⟨4, partAt xs a, zer32, [], 0⟩) :: l) (fun w h => by unfold boxL at h; exact h.sup (by (repeat (first | exact Sup.refl | apply Sup.cons (by (repeat (first | exact Pick.head | apply Pick.tail | apply Pick.app))) | apply Sup.app | apply Sup.skip | apply Sup.skips)))) ?_) | skip)
                    all_goals (first | refine JL.gskip rfl rfl rfl rfl rfl rfl ?_ | refine JL.gskipU rfl rfl rfl rfl rfl ?_ | (refine JL.gloud rfl rfl rfl (l_callF e70 rfl rfl (text24_spec E rb cb xs b ⟨4, partAt xs a, zer32, [], 0⟩ l rfl hB hl hble) ?_); rintro v3 l3 hT3))
                    all_goals (refine JL.step (y_pick rfl rfl rfl) rfl rfl rfl ?_)
                    all_goals (refine JL.step (y_assign rfl) rfl rfl rfl ?_)
                    all_goals refine JL.nil ?_
                    all_goals refine JE.then_normal ?_
                    all_goals
                      refine J.ret ?_
                      refine JE.block_ret ?_
                      refine JE.then_ret ?_
                      refine JE.ret1 (.inl rfl) rfl rfl (by (first | exact RV.tmp rfl | exact RV.cell1 hT rfl rfl rfl (by (exact Rd1.row (by (repeat (first | exact Pick.head | apply Pick.tail | apply Pick.app))) (by rfl))) | exact RV.cellN hT rfl rfl rfl (by (first | exact RdN.rowAll (by (repeat (first | exact Pick.head | apply Pick.tail | apply Pick.app))) | exact RdN.own (by (repeat (first | exact Pick.head | apply Pick.tail | apply Pick.app))))) (by (first | rfl | assumption | (simp; done) | omega)))) ?_
                      first
                      | exact ⟨_, (fun w h => by unfold boxL at h; exact h.sup (by (repeat (first | exact Sup.refl | apply Sup.cons (by (repeat (first | exact Pick.head | apply Pick.tail | apply Pick.app))) | apply Sup.app | apply Sup.skip | apply Sup.skips)))), .inl ⟨a, _, restF_1 (by simp), ha, rfl, rfl⟩⟩
                      | (have zz : nextB xs b keyB = false → _ := hn3
                         have hbf : nextB xs a nameB = true := hbq
                         rcases hbq3 : nextB xs b keyB with _ | _
                         · rcases hn3 hbq3 with h | ⟨_, rfl, h⟩
                           all_goals (subst h; exact ⟨_, (fun w h => by unfold boxL at h; exact h.sup (by (repeat (first | exact Sup.refl | apply Sup.cons (by (repeat (first | exact Pick.head | apply Pick.tail | apply Pick.app))) | apply Sup.app | apply Sup.skip | apply Sup.skips)))), .inr ⟨340, nextP xs b, b, _, by simp [restF, hbf, hb, hbq3], rfl, rfl⟩⟩)
                         · obtain ⟨hlt3, hnb3, _, rfl, rfl⟩ := hy3 hbq3
                           rw [if_pos hnb3]
                           exact ⟨_, (fun w h => by unfold boxL at h; exact h.sup (by (repeat (first | exact Sup.refl | apply Sup.cons (by (repeat (first | exact Pick.head | apply Pick.tail | apply Pick.app))) | apply Sup.app | apply Sup.skip | apply Sup.skips)))), .inl ⟨_, _, by simp [restF, hbf, hb, hbq3], partAt_le hlt3, rfl, rfl⟩⟩)
                      | (have zz : nextB xs b numB = false → _ := hn3
                         have hbf : nextB xs a nameB = true := hbq
                         rcases hbq3 : nextB xs b numB with _ | _
                         · rcases hn3 hbq3 with h | ⟨_, ⟨z, _, rfl⟩, h⟩
                           all_goals (subst h; exact ⟨_, (fun w h => by unfold boxL at h; exact h.sup (by (repeat (first | exact Sup.refl | apply Sup.cons (by (repeat (first | exact Pick.head | apply Pick.tail | apply Pick.app))) | apply Sup.app | apply Sup.skip | apply Sup.skips)))), .inr ⟨340, nextP xs b, b, _, by simp [restF, hbf, hb, hbq3], rfl, rfl⟩⟩)
                         · obtain ⟨hlt3, hnb3, _, ⟨z, hz, rfl⟩, rfl⟩ := hy3 hbq3
                           rw [hz hnb3]
                           exact ⟨_, (fun w h => by unfold boxL at h; exact h.sup (by (repeat (first | exact Sup.refl | apply Sup.cons (by (repeat (first | exact Pick.head | apply Pick.tail | apply Pick.app))) | apply Sup.app | apply Sup.skip | apply Sup.skips)))), .inl ⟨_, _, by simp [restF, hbf, hb, hbq3], partAt_le hlt3, rfl, rfl⟩⟩)
                      | (have zz := hT3
                         have hbf : nextB xs a nameB = true := hbq
                         rcases hT3 with ⟨t, ht, rfl, rfl⟩ | ⟨e, p, c2, ht, rfl, rfl⟩
                         · exact ⟨_, fun w h => h, .inl ⟨xs.length, _, by simp [restF, hbf, hb, ht], Nat.le_refl _, rfl, rfl⟩⟩
                         · exact ⟨_, fun w h => h, .inr ⟨e, p, b, c2, by simp [restF, hbf, hb, ht], rfl, rfl⟩⟩)
                      | (have hbf : nextB xs a nameB = false := hbq
                         exact ⟨_, (fun w h => by unfold boxL at h; exact h.sup (by (repeat (first | exact Sup.refl | apply Sup.cons (by (repeat (first | exact Pick.head | apply Pick.tail | apply Pick.app))) | apply Sup.app | apply Sup.skip | apply Sup.skips)))), .inr ⟨340, nextP xs a, a, _, restF_n (by omega) hbf, rfl, rfl⟩⟩)
                      | (rcases hbq : nextB xs a nameB with _ | _
                         · rcases hn hbq with h | ⟨_, rfl, h⟩
                           all_goals (subst h; exact ⟨_, (fun w h => by unfold boxL at h; exact h.sup (by (repeat (first | exact Sup.refl | apply Sup.cons (by (repeat (first | exact Pick.head | apply Pick.tail | apply Pick.app))) | apply Sup.app | apply Sup.skip | apply Sup.skips)))), .inr ⟨340, nextP xs a, a, _, restF_n (by omega) hbq, rfl, rfl⟩⟩)
                         · obtain ⟨hlt, hnb, _, rfl, rfl⟩ := hy hbq
                           have hble := partAt_le hlt
                           rw [hb] at hble ⊢
                           refine ⟨_, (fun w h => by unfold boxL at h; exact h.sup (by (repeat (first | exact Sup.refl | apply Sup.cons (by (repeat (first | exact Pick.head | apply Pick.tail | apply Pick.app))) | apply Sup.app | apply Sup.skip | apply Sup.skips)))), .inl ⟨b, _, ?_, hble, rfl, rfl⟩⟩
                           unfold restF
                           rw [if_neg (by omega), if_neg (by rw [hbq]; decide)]
                           simp only [hb]
                           rw [if_neg (by omega), if_neg (by omega), if_neg (by omega)])
                case' hf =>
                  intro h
                  try (first | (exfalso; omega) | (cases h; done) | (exfalso; simp at h; done) | subst h)
                  all_goals
                    refine J.skip ?_
  all_goals refine JE.block_normal ?_
  all_goals refine JE.then_normal ?_
  all_goals
    refine J.seq ?_
    refine J.region ?_
    refine JL.step (y_move rfl) rfl rfl rfl (JL.step (y_move rfl) rfl rfl rfl ?_)
    refine JL.loud rfl (l_callF e65 rfl rfl (next_spec E rb xs a 63 e63 [.pointer (some ⟨b1, 0, none⟩)] nameB (boxL b1 cb ⟨k, [], zer32, [], 0⟩ l) (fun p m => m = boxL b1 cb ⟨k, p, zer32, [], 0⟩ l) hB hl ha (fun p hp hpl => rest1_spec E _ b1 cb ⟨k, [], zer32, [], 0⟩ p l rfl hp (by omega))) ?_)
    rintro v2 l2 ⟨rfl, hy, hn⟩
    refine JL.step (y_assign rfl) rfl rfl rfl ?_
    refine JL.nil ?_
    refine JE.then_normal ?_
    refine J.ret ?_
    refine JE.ret1 (.inl rfl) rfl rfl (by (first | exact RV.tmp rfl | exact RV.cell1 hT rfl rfl rfl (by (exact Rd1.row (by (repeat (first | exact Pick.head | apply Pick.tail | apply Pick.app))) (by rfl))) | exact RV.cellN hT rfl rfl rfl (by (first | exact RdN.rowAll (by (repeat (first | exact Pick.head | apply Pick.tail | apply Pick.app))) | exact RdN.own (by (repeat (first | exact Pick.head | apply Pick.tail | apply Pick.app))))) (by (first | rfl | assumption | (simp; done) | omega)))) ?_
    first
    | exact ⟨_, (fun w h => by unfold boxL at h; exact h.sup (by (repeat (first | exact Sup.refl | apply Sup.cons (by (repeat (first | exact Pick.head | apply Pick.tail | apply Pick.app))) | apply Sup.app | apply Sup.skip | apply Sup.skips)))), .inl ⟨a, _, restF_1 (by simp), ha, rfl, rfl⟩⟩
    | (have zz : nextB xs b keyB = false → _ := hn3
       have hbf : nextB xs a nameB = true := hbq
       rcases hbq3 : nextB xs b keyB with _ | _
       · rcases hn3 hbq3 with h | ⟨_, rfl, h⟩
         all_goals (subst h; exact ⟨_, (fun w h => by unfold boxL at h; exact h.sup (by (repeat (first | exact Sup.refl | apply Sup.cons (by (repeat (first | exact Pick.head | apply Pick.tail | apply Pick.app))) | apply Sup.app | apply Sup.skip | apply Sup.skips)))), .inr ⟨340, nextP xs b, b, _, by simp [restF, hbf, hb, hbq3], rfl, rfl⟩⟩)
       · obtain ⟨hlt3, hnb3, _, rfl, rfl⟩ := hy3 hbq3
         rw [if_pos hnb3]
         exact ⟨_, (fun w h => by unfold boxL at h; exact h.sup (by (repeat (first | exact Sup.refl | apply Sup.cons (by (repeat (first | exact Pick.head | apply Pick.tail | apply Pick.app))) | apply Sup.app | apply Sup.skip | apply Sup.skips)))), .inl ⟨_, _, by simp [restF, hbf, hb, hbq3], partAt_le hlt3, rfl, rfl⟩⟩)
    | (have zz : nextB xs b numB = false → _ := hn3
       have hbf : nextB xs a nameB = true := hbq
       rcases hbq3 : nextB xs b numB with _ | _
       · rcases hn3 hbq3 with h | ⟨_, ⟨z, _, rfl⟩, h⟩
         all_goals (subst h; exact ⟨_, (fun w h => by unfold boxL at h; exact h.sup (by (repeat (first | exact Sup.refl | apply Sup.cons (by (repeat (first | exact Pick.head | apply Pick.tail | apply Pick.app))) | apply Sup.app | apply Sup.skip | apply Sup.skips)))), .inr ⟨340, nextP xs b, b, _, by simp [restF, hbf, hb, hbq3], rfl, rfl⟩⟩)
       · obtain ⟨hlt3, hnb3, _, ⟨z, hz, rfl⟩, rfl⟩ := hy3 hbq3
         rw [hz hnb3]
         exact ⟨_, (fun w h => by unfold boxL at h; exact h.sup (by (repeat (first | exact Sup.refl | apply Sup.cons (by (repeat (first | exact Pick.head | apply Pick.tail | apply Pick.app))) | apply Sup.app | apply Sup.skip | apply Sup.skips)))), .inl ⟨_, _, by simp [restF, hbf, hb, hbq3], partAt_le hlt3, rfl, rfl⟩⟩)
    | (have zz := hT3
       have hbf : nextB xs a nameB = true := hbq
       rcases hT3 with ⟨t, ht, rfl, rfl⟩ | ⟨e, p, c2, ht, rfl, rfl⟩
       · exact ⟨_, fun w h => h, .inl ⟨xs.length, _, by simp [restF, hbf, hb, ht], Nat.le_refl _, rfl, rfl⟩⟩
       · exact ⟨_, fun w h => h, .inr ⟨e, p, b, c2, by simp [restF, hbf, hb, ht], rfl, rfl⟩⟩)
    | (have hbf : nextB xs a nameB = false := hbq
       exact ⟨_, (fun w h => by unfold boxL at h; exact h.sup (by (repeat (first | exact Sup.refl | apply Sup.cons (by (repeat (first | exact Pick.head | apply Pick.tail | apply Pick.app))) | apply Sup.app | apply Sup.skip | apply Sup.skips)))), .inr ⟨340, nextP xs a, a, _, restF_n (by omega) hbf, rfl, rfl⟩⟩)
    | (rcases hbq : nextB xs a nameB with _ | _
       · rcases hn hbq with h | ⟨_, rfl, h⟩
         all_goals (subst h; exact ⟨_, (fun w h => by unfold boxL at h; exact h.sup (by (repeat (first | exact Sup.refl | apply Sup.cons (by (repeat (first | exact Pick.head | apply Pick.tail | apply Pick.app))) | apply Sup.app | apply Sup.skip | apply Sup.skips)))), .inr ⟨340, nextP xs a, a, _, restF_n (by omega) hbq, rfl, rfl⟩⟩)
       · obtain ⟨hlt, hnb, _, rfl, rfl⟩ := hy hbq
         have hble := partAt_le hlt
         rw [hb] at hble ⊢
         refine ⟨_, (fun w h => by unfold boxL at h; exact h.sup (by (repeat (first | exact Sup.refl | apply Sup.cons (by (repeat (first | exact Pick.head | apply Pick.tail | apply Pick.app))) | apply Sup.app | apply Sup.skip | apply Sup.skips)))), .inl ⟨b, _, ?_, hble, rfl, rfl⟩⟩
         unfold restF
         rw [if_neg (by omega), if_neg (by rw [hbq]; decide)]
         simp only [hb]
         rw [if_neg (by omega), if_neg (by omega), if_neg (by omega)])
end
end
section
open Go Go.SL
section
/-- The first place of a word; less than nought: it is not there. -/
def wIdx (ws : List (List Int)) (w : List Int) : Int := match ws.findIdx? (· == w) with | some i => (i : Int) | none => -1
theorem wIdx_at {ws : List (List Int)} {w : List Int} {i : Nat} (h : ∀ j < i, ws[j]? ≠ some w) (hi : ws[i]? = some w) : wIdx ws w = i := by
  unfold wIdx
  have : ws.findIdx? (· == w) = some i := by
    rw [List.findIdx?_eq_some_iff_getElem]
    obtain ⟨hl, he⟩ := List.getElem?_eq_some_iff.1 hi
    refine ⟨hl, by simp [he], fun j hj => ?_⟩
    have h2 := h j hj
    rw [List.getElem?_eq_getElem (by omega)] at h2
    simpa using h2
  rw [this]
theorem wIdx_none {ws : List (List Int)} {w : List Int} (h : ∀ j < ws.length, ws[j]? ≠ some w) : wIdx ws w = -1 := by
  unfold wIdx
  have : ws.findIdx? (· == w) = none := by
    rw [List.findIdx?_eq_none_iff]
    intro x hx
    obtain ⟨j, hj, he⟩ := List.mem_iff_getElem.1 hx
    have := h j hj
    rw [List.getElem?_eq_getElem hj, he] at this
    simpa using this
  rw [this]
def wsL : List (List Int) := [[], [119, 104, 111, 97, 109, 105], [97, 100, 100], [108, 105, 115, 116], [115, 101, 110, 100], [114, 101, 97, 100], [112, 117, 114, 103, 101], [115, 116, 97, 116, 117, 115]]
theorem wsL_bys : ∀ w ∈ wsL, Bys w := by
  intro w hw
  unfold wsL at hw
  simp only [List.mem_cons, List.not_mem_nil, or_false] at hw
  rcases hw with rfl | rfl | rfl | rfl | rfl | rfl | rfl | rfl <;> exact Bys.all rfl
/-- Texts in a row of cells. -/
def strs (ws : List (List Int)) : List Value := ws.map fun w => .string (strOf w)
theorem strs_length (ws : List (List Int)) : (strs ws).length = ws.length := by unfold strs; rw [List.length_map]
theorem strs_at {ws : List (List Int)} {i : Nat} {w : List Int} (h : ws[i]? = some w) : (strs ws)[i]? = some (.string (strOf w)) := by unfold strs; rw [List.getElem?_map, h]; rfl
theorem strs_one (ws : List (List Int)) : ∀ v ∈ strs ws, v.oneCell' = true := by
  intro v hv
  unfold strs at hv
  obtain ⟨x, _, rfl⟩ := List.mem_map.1 hv
  rfl
theorem wsL_cells : strs wsL = [.string ⟨#[]⟩, .string ⟨#[119, 104, 111, 97, 109, 105]⟩, .string ⟨#[97, 100, 100]⟩, .string ⟨#[108, 105, 115, 116]⟩, .string ⟨#[115, 101, 110, 100]⟩, .string ⟨#[114, 101, 97, 100]⟩, .string ⟨#[112, 117, 114, 103, 101]⟩, .string ⟨#[115, 116, 97, 116, 117, 115]⟩] := rfl
theorem cm_zero (k : Int) : cmE ⟨k, [], zer32, [], 0⟩ = .int .i64 k :: .string ByteArray.empty :: (List.replicate 32 (.int .u8 0) ++ [.string ByteArray.empty, .int .i64 0]) := rfl
/-- The command of a line; its error, and the place. -/
def cmdF (xs : List Int) : CmT × Int × Int :=
  if 640 < xs.length then (cm0, 3, 640) else
  if wIdx wsL (headW xs) < 1 then (cm0, 340, 0) else
  match restF xs (headW xs).length (wIdx wsL (headW xs)) with
  | .error (e, p) => (cm0, e, p)
  | .ok (a, c) => if a < xs.length then (cm0, 340, (a : Int)) else (c, 0, 0)
structure CmOk (c : CmT) : Prop where
  key : c.key.length = 32
  kb : Bys c.key
  name : Bys c.name
  text : Bys c.text
theorem zer32_bys : Bys zer32 := fun x hx => by have := List.eq_of_mem_replicate hx; omega
theorem keyV_bys {xs : List Int} (h : keyB xs = true) : Bys (keyV xs) := by
  unfold keyB at h
  rw [Bool.and_eq_true] at h
  have h2 := List.all_eq_true.1 h.2
  have h1 := of_decide_eq_true h.1
  intro x hx
  unfold keyV kst at hx
  obtain ⟨j, hj, rfl⟩ := List.mem_map.1 hx
  have hj := List.mem_range.1 hj
  have d : ∀ i, i < 64 → 0 ≤ hexV (xs.getD i 48) ∧ hexV (xs.getD i 48) ≤ 15 := by
    intro i hi
    have hb := hexV_le (xs.getD i 48)
    refine ⟨?_, hb.2⟩
    rw [List.getD_eq_getElem?_getD, List.getElem?_eq_getElem (by omega)]
    exact of_decide_eq_true (h2 _ (List.getElem_mem _))
  unfold kc
  rw [if_pos (by omega), if_pos (by omega)]
  have := d (2 * j) (by omega)
  have := d (2 * j + 1) (by omega)
  omega
theorem nextB_t {xs : List Int} {a : Nat} {t : List Int → Bool} (h : ¬ nextB xs a t = false) : t (partAt xs a) = true := by
  have h : nextB xs a t = true := by simpa using h
  unfold nextB at h
  rw [Bool.and_eq_true] at h
  exact h.2
theorem restF_ok {xs : List Int} {a a' : Nat} {k : Int} {c : CmT} (hB : Bys xs) (h : restF xs a k = .ok (a', c)) : CmOk c ∧ c.kind = k := by
  unfold restF at h
  split at h
  · cases h; exact ⟨⟨rfl, zer32_bys, Bys.nil, Bys.nil⟩, rfl⟩
  · split at h
    · cases h
    · simp only at h
      split at h
      · split at h
        · cases h
        · rename_i q
          cases h
          exact ⟨⟨kst_length _ _, keyV_bys (nextB_t q), partAt_bys hB _, Bys.nil⟩, rfl⟩
      · split at h
        · split at h
          · cases h
          · cases h
            exact ⟨⟨rfl, zer32_bys, partAt_bys hB _, Bys.nil⟩, rfl⟩
        · split at h
          · split at h
            · cases h
            · rename_i t ht
              cases h
              refine ⟨⟨rfl, zer32_bys, partAt_bys hB _, ?_⟩, rfl⟩
              unfold txtF at ht
              simp only at ht
              split at ht
              · cases ht
              · split at ht
                · cases ht
                · split at ht
                  · cases ht
                  · split at ht
                    · cases ht
                    · cases ht
                      exact hB.drop _
          · cases h
            exact ⟨⟨rfl, zer32_bys, partAt_bys hB _, Bys.nil⟩, rfl⟩
end
section
attribute [local irreducible] J JL JE JM LS Y Fc RV Code.wp wpList Code.wpIn wpListIn
attribute [local irreducible] Yc strOf valD dig
variable (E : World)
theorem words_spec (l : List HProp) : Fc prog E 35 [].toArray l (fun v l' => v = .agg (strs wsL).toArray ∧ l' = l) := by
  refine Fc.eqs ?_
  rw [wsL_cells]
  refine Fc.of_body (c := ?codeC) Tryz.func35 ?hb Tryz.ntmps35 ?hl ?_
  case hb => exact rfl
  case hl => exact rfl
  refine J.seq ?_
  refine J.region ?_
  refine JL.loud rfl (l_alloc hT rfl rfl (by (first | rfl | simp)) rfl (fun b1 => ?_))
  refine JL.nil ?_
  refine JE.then_normal ?_
  refine J.seq ?_
  refine J.region ?_
  refine JL.step (y_buildArr hT rfl rfl rfl rfl rfl (by first | rfl | decide)) rfl rfl rfl ?_
  refine JL.loud rfl (l_storeAll hT rfl rfl rfl (by (first | rfl | assumption | (simp; done) | omega)) (by (first | assumption | exact ones_of rfl | exact encW_one _ | exact encB_one _ | (intro u hu; simp at hu; rcases hu with rfl | rfl <;> rfl) | (intro u hu; simp at hu; subst hu; rfl) | simp)) (by (repeat (first | exact Pick.head | apply Pick.tail | apply Pick.app))) (by (first | rfl | assumption | (simp; done) | omega)) ?_)
  refine JL.nil ?_
  refine JE.then_normal ?_
  refine J.ret ?_
  refine JE.ret1 (.inl rfl) rfl rfl (by (first | exact RV.tmp rfl | exact RV.cell1 hT rfl rfl rfl (by (exact Rd1.row (by (repeat (first | exact Pick.head | apply Pick.tail | apply Pick.app))) (by rfl))) | exact RV.cellN hT rfl rfl rfl (by (first | exact RdN.rowAll (by (repeat (first | exact Pick.head | apply Pick.tail | apply Pick.app))) | exact RdN.own (by (repeat (first | exact Pick.head | apply Pick.tail | apply Pick.app))))) (by (first | rfl | assumption | (simp; done) | omega)))) ?_
  exact ⟨rfl, fun w h => h.sup (by (repeat (first | exact Sup.refl | apply Sup.cons (by (repeat (first | exact Pick.head | apply Pick.tail | apply Pick.app))) | apply Sup.app | apply Sup.skip | apply Sup.skips)))⟩
theorem windex_spec (p : Option Addr) (n c : Nat) (ws : List (List Int)) (w : List Int) (l : List HProp) (hn : ws.length = n) (hn8 : n ≤ 1000000) (hB : ∀ w ∈ ws, Bys w) (hw : Bys w) (hin : InL l p n c (strs ws)) :
    Fc prog E 36 [.slice p n c, .string (strOf w)].toArray l (fun v l' => v = .int .i64 (wIdx ws w) ∧ l' = l) := by
  refine Fc.eqs ?_
  refine Fc.of_body (c := ?codeC) Tryz.func36 ?hb Tryz.ntmps36 ?hl ?_
  case hb => exact rfl
  case hl => exact rfl
  refine J.seq ?_
  refine J.region ?_
  refine JL.step (y_assign rfl) rfl rfl rfl ?_
  refine JL.nil ?_
  refine JE.then_normal ?_
  refine J.seq ?_
  refine J.seq ?_
  refine J.region ?_
  refine JL.step (y_move rfl) rfl rfl rfl (JL.step (y_len_slice hT rfl rfl rfl) rfl rfl rfl (JL.step (y_move rfl) rfl rfl rfl ?_))
  refine JL.nil ?_
  refine JE.then_normal ?_
  refine J.block ?_
  refine J.loop (α := Nat) (fun i => i ≤ n ∧ ∀ j < i, ws[j]? ≠ some w) (fun i => [(0, .slice p n c), (1, .string (strOf w)), (6, .slice p n c), (7, .int .i64 n), (8, .int .i64 i)]) (fun _ => l) (fun i => n - i) 0 ⟨Nat.zero_le _, by omega⟩ ⟨rfl, rfl, rfl, rfl, rfl, trivial⟩ (fun w h => h) ?_
  rintro i ⟨hi, hb⟩
  try dsimp only
  refine J.seq ?_
  refine J.region ?_
  refine JL.step (y_lss rfl rfl) rfl rfl rfl ?_
  refine JL.nil ?_
  refine JE.then_normal ?_
  refine J.seq ?_
  first | apply J.cond_dec rfl | apply J.cond rfl
  case' ht =>
    intro h
    try (first | (exfalso; omega) | (cases h; done) | (exfalso; simp at h; done) | subst h)
    all_goals
      refine J.skip ?_
  case' hf =>
    intro h
    try (first | (exfalso; omega) | (cases h; done) | (exfalso; simp at h; done) | subst h)
    all_goals
      refine J.exit ?_
      refine JE.then_exit ?_
      refine JE.then_exit ?_
      refine JE.block_exit ?_
      refine JE.then_normal ?_
      refine J.seq ?_
      refine J.region ?_
      refine JL.step (y_assign rfl) rfl rfl rfl ?_
      refine JL.nil ?_
      refine JE.then_normal ?_
      refine J.ret ?_
      refine JE.ret1 (.inl rfl) rfl rfl (by (first | exact RV.tmp rfl | exact RV.cell1 hT rfl rfl rfl (by (exact Rd1.row (by (repeat (first | exact Pick.head | apply Pick.tail | apply Pick.app))) (by rfl))) | exact RV.cellN hT rfl rfl rfl (by (first | exact RdN.rowAll (by (repeat (first | exact Pick.head | apply Pick.tail | apply Pick.app))) | exact RdN.own (by (repeat (first | exact Pick.head | apply Pick.tail | apply Pick.app))))) (by (first | rfl | assumption | (simp; done) | omega)))) ?_
      first
      | (have he := of_decide_eq_true hbw.symm
         rw [wIdx_at hb (by rw [hh, he])]
         exact ⟨rfl, fun w h => h⟩)
      | (obtain rfl : i = n := by omega
         rw [wIdx_none (by rw [hn]; exact hb)]
         exact ⟨rfl, fun w h => h⟩)
  all_goals refine JE.then_normal ?_
  all_goals
    refine J.seq ?_
    refine J.block ?_
    refine J.seq ?_
    refine J.region ?_
    refine JL.step (y_move rfl) rfl rfl rfl (JL.step (y_assign rfl) rfl rfl rfl ?_)
    refine JL.nil ?_
    refine JE.then_normal ?_
    refine J.seq ?_
    have hlt : i < n := by omega
    obtain ⟨x, hh⟩ : ∃ x, ws[i]? = some x := ⟨ws[i]'(by omega), List.getElem?_eq_getElem _⟩
    obtain ⟨g, o, rfl, hrd⟩ := hin.addr (by omega)
    obtain ⟨b, hbw⟩ : ∃ b, b = decide (w = x) := ⟨_, rfl⟩
    refine J.region ?_
    refine JL.step (y_move rfl) rfl rfl rfl (JL.step (y_move rfl) rfl rfl rfl (JL.step (y_move rfl) rfl rfl rfl ?_))
    refine JL.step (y_indexAddr_slice hT rfl rfl rfl rfl rfl (by (first | omega | exact Nat.le_of_ble_eq_true rfl | decide | (simp; omega))) (by (first | omega | exact Nat.le_of_ble_eq_true rfl | decide | (simp; omega)))) rfl rfl rfl ?_
    refine JL.step (y_load1 hT rfl rfl rfl (Rd1.elem (hrd []) (by rw [Int.toNat_natCast]; exact strs_at hh))) rfl rfl rfl ?_
    refine JL.step (y_eqS (b := b) hw (hB x (List.mem_of_getElem? hh)) rfl rfl hbw) rfl rfl rfl ?_
    refine JL.nil ?_
    refine JE.then_normal ?_
    first | apply J.cond_dec rfl | apply J.cond rfl
    case' ht =>
      intro h
      try (first | (exfalso; omega) | (cases h; done) | (exfalso; simp at h; done) | subst h)
      all_goals
        refine J.seq ?_
        refine J.region ?_
        refine JL.step (y_move rfl) rfl rfl rfl (JL.step (y_assign rfl) rfl rfl rfl ?_)
        refine JL.nil ?_
        refine JE.then_normal ?_
        refine J.ret ?_
        refine JE.block_ret ?_
        refine JE.then_ret ?_
        refine JE.then_ret ?_
        refine JE.block_ret ?_
        refine JE.then_ret ?_
        refine JE.ret1 (.inl rfl) rfl rfl (by (first | exact RV.tmp rfl | exact RV.cell1 hT rfl rfl rfl (by (exact Rd1.row (by (repeat (first | exact Pick.head | apply Pick.tail | apply Pick.app))) (by rfl))) | exact RV.cellN hT rfl rfl rfl (by (first | exact RdN.rowAll (by (repeat (first | exact Pick.head | apply Pick.tail | apply Pick.app))) | exact RdN.own (by (repeat (first | exact Pick.head | apply Pick.tail | apply Pick.app))))) (by (first | rfl | assumption | (simp; done) | omega)))) ?_
        first
        | (have he := of_decide_eq_true hbw.symm
           rw [wIdx_at hb (by rw [hh, he])]
           exact ⟨rfl, fun w h => h⟩)
        | (obtain rfl : i = n := by omega
           rw [wIdx_none (by rw [hn]; exact hb)]
           exact ⟨rfl, fun w h => h⟩)
    case' hf =>
      intro h
      try (first | (exfalso; omega) | (cases h; done) | (exfalso; simp at h; done) | subst h)
      all_goals
        refine J.skip ?_
    all_goals refine JE.block_normal ?_
    all_goals refine JE.then_normal ?_
    all_goals
      refine J.region ?_
      refine JL.step (y_add rfl rfl (by (first | exact wrap_i64 (by omega) (by omega) | rfl))) rfl rfl rfl ?_
      refine JL.step (y_move rfl) rfl rfl rfl ?_
      refine JL.nil ?_
  all_goals
    have hne := of_decide_eq_false hbw.symm
    refine JE.round (s := i) (i + 1) ⟨by omega, fun j hj => ?_⟩ ⟨rfl, rfl, rfl, rfl, rfl, trivial⟩ (fun w h => h) (by omega)
    rcases Nat.lt_or_ge j i with q | q
    · exact hb j q
    · obtain rfl : j = i := by omega
      rw [hh]
      exact fun q => hne (Option.some.inj q).symm
theorem command_spec (xs : List Int) (l : List HProp) (hB : Bys xs) (hl : xs.length ≤ 1000000) (hK : K24 E l) :
    Fc prog E 13 [.string (strOf xs)].toArray l (fun v l' => v = .tuple #[.agg (cmE (cmdF xs).1).toArray, .agg #[.int .i64 (cmdF xs).2.1, .int .i64 (cmdF xs).2.2]] ∧ l' = l) := by
  refine Fc.eqs ?_
  refine Fc.of_body (c := ?codeC) Tryz.func13 ?hb Tryz.ntmps13 ?hl ?_
  case hb => exact rfl
  case hl => exact rfl
  refine J.seq ?_
  refine J.region ?_
  refine JL.loud rfl (l_alloc hT rfl rfl (by (first | rfl | simp)) rfl (fun b1 => ?_))
  refine JL.loud rfl (l_alloc hT rfl rfl (by (first | rfl | simp)) rfl (fun b2 => ?_))
  refine JL.nil ?_
  refine JE.then_normal ?_
  refine J.seq ?_
  refine J.seq ?_
  refine J.region ?_
  refine JL.step (y_move rfl) rfl rfl rfl ?_
  refine JL.step (y_lenS hT rfl rfl rfl) rfl rfl rfl ?_
  refine JL.step (y_gtr rfl rfl) rfl rfl rfl ?_
  refine JL.nil ?_
  refine JE.then_normal ?_
  first | apply J.cond_dec rfl | apply J.cond rfl
  case' ht =>
    intro h
    try (first | (exfalso; omega) | (cases h; done) | (exfalso; simp at h; done) | subst h)
    all_goals
      refine J.seq ?_
      refine J.region ?_
      refine JL.step (y_build (cs := [_, _, _, _, _, _, _, _, _, _, _, _, _, _, _, _, _, _, _, _, _, _, _, _, _, _, _, _, _, _, _, _, _, _, _, _]) hT rfl rfl rfl rfl rfl rfl trivial rfl) rfl rfl rfl ?_
      refine JL.step (y_build (cs := [_, _]) hT rfl rfl rfl rfl rfl rfl ⟨⟨(by (first | rfl | assumption | (simp; done) | omega)), Nat.le_of_ble_eq_true rfl⟩, ⟨⟨(by (first | rfl | assumption | (simp; done) | omega)), Nat.le_of_ble_eq_true rfl⟩, trivial⟩⟩ rfl) rfl rfl rfl ?_
      refine JL.loud rfl (l_storeAll hT rfl rfl rfl (by (first | rfl | assumption | (simp; done) | omega)) (by (first | assumption | exact ones_of rfl | exact encW_one _ | exact encB_one _ | (intro u hu; simp at hu; rcases hu with rfl | rfl <;> rfl) | (intro u hu; simp at hu; subst hu; rfl) | simp)) (by (repeat (first | exact Pick.head | apply Pick.tail | apply Pick.app))) (by (first | rfl | assumption | (simp; done) | omega)) ?_)
      refine JL.loud rfl (l_storeAll hT rfl rfl rfl (by (first | rfl | assumption | (simp; done) | omega)) (by (first | assumption | exact ones_of rfl | exact encW_one _ | exact encB_one _ | (intro u hu; simp at hu; rcases hu with rfl | rfl <;> rfl) | (intro u hu; simp at hu; subst hu; rfl) | simp)) (by (repeat (first | exact Pick.head | apply Pick.tail | apply Pick.app))) (by (first | rfl | assumption | (simp; done) | omega)) ?_)
      refine JL.nil ?_
      refine JE.then_normal ?_
      refine J.ret ?_
      refine JE.then_ret ?_
      refine JE.ret2 (.inl rfl) rfl rfl (by (first | exact RV.tmp rfl | exact RV.cell1 hT rfl rfl rfl (by (exact Rd1.row (by (repeat (first | exact Pick.head | apply Pick.tail | apply Pick.app))) (by rfl))) | exact RV.cellN hT rfl rfl rfl (by (first | exact RdN.rowAll (by (repeat (first | exact Pick.head | apply Pick.tail | apply Pick.app))) | exact RdN.own (by (repeat (first | exact Pick.head | apply Pick.tail | apply Pick.app))))) (by (first | rfl | assumption | (simp; done) | omega)))) (by (first | exact RV.tmp rfl | exact RV.cell1 hT rfl rfl rfl (by (exact Rd1.row (by (repeat (first | exact Pick.head | apply Pick.tail | apply Pick.app))) (by rfl))) | exact RV.cellN hT rfl rfl rfl (by (first | exact RdN.rowAll (by (repeat (first | exact Pick.head | apply Pick.tail | apply Pick.app))) | exact RdN.own (by (repeat (first | exact Pick.head | apply Pick.tail | apply Pick.app))))) (by (first | rfl | assumption | (simp; done) | omega)))) ?_
      first
      | (have zz : 640 < xs.length := by omega
         have hc : cmdF xs = (cm0, 3, 640) := by unfold cmdF; rw [if_pos zz]
         rw [hc]
         unfold cm0
         rw [cm_zero]
         exact ⟨rfl, fun w h => h.sup (by (repeat (first | exact Sup.refl | apply Sup.cons (by (repeat (first | exact Pick.head | apply Pick.tail | apply Pick.app))) | apply Sup.app | apply Sup.skip | apply Sup.skips)))⟩)
      | (have zz : k < 1 := by assumption
         have hc : cmdF xs = (cm0, 340, 0) := by unfold cmdF; rw [if_neg (by omega), if_pos (by omega)]
         rw [hc]
         unfold cm0
         rw [cm_zero]
         exact ⟨rfl, fun w h => h.sup (by (repeat (first | exact Sup.refl | apply Sup.cons (by (repeat (first | exact Pick.head | apply Pick.tail | apply Pick.app))) | apply Sup.app | apply Sup.skip | apply Sup.skips)))⟩)
      | (have zz := hF
         have hc : cmdF xs = (cm0, e, p) := by unfold cmdF; rw [if_neg (by omega), if_neg (by omega), hk, hF]
         rw [hc]
         unfold cm0
         rw [cm_zero]
         exact ⟨rfl, fun w h => h.sup (by (repeat (first | exact Sup.refl | apply Sup.cons (by (repeat (first | exact Pick.head | apply Pick.tail | apply Pick.app))) | apply Sup.app | apply Sup.skip | apply Sup.skips)))⟩)
      | (have zz : a' < xs.length := by omega
         have hc : cmdF xs = (cm0, 340, (a' : Int)) := by unfold cmdF; rw [if_neg (by omega), if_neg (by omega), hk, hF]; simp only; rw [if_pos zz]
         rw [hc]
         unfold cm0
         rw [cm_zero]
         exact ⟨rfl, fun w h => h.sup (by (repeat (first | exact Sup.refl | apply Sup.cons (by (repeat (first | exact Pick.head | apply Pick.tail | apply Pick.app))) | apply Sup.app | apply Sup.skip | apply Sup.skips)))⟩)
      | (have hc : cmdF xs = (c', 0, 0) := by unfold cmdF; rw [if_neg (by omega), if_neg (by omega), hk, hF]; simp only; rw [if_neg (by omega)]
         rw [hc]
         exact ⟨rfl, fun w h => h.sup (by (repeat (first | exact Sup.refl | apply Sup.cons (by (repeat (first | exact Pick.head | apply Pick.tail | apply Pick.app))) | apply Sup.app | apply Sup.skip | apply Sup.skips)))⟩)
  case' hf =>
    intro h
    try (first | (exfalso; omega) | (cases h; done) | (exfalso; simp at h; done) | subst h)
    all_goals
      refine J.skip ?_
  all_goals refine JE.then_normal ?_
  all_goals
    refine J.seq ?_
    refine J.region ?_
    refine JL.step (y_move rfl) rfl rfl rfl ?_
    refine JL.loud rfl (l_callF e34 rfl rfl (cut1_spec E xs _ hB hl) ?_)
    rintro _ _ ⟨rfl, rfl⟩
    refine JL.step (y_move rfl) rfl rfl rfl (JL.step (y_extract rfl rfl) rfl rfl rfl (JL.step (y_extract rfl rfl) rfl rfl rfl (JL.step (y_extract rfl rfl) rfl rfl rfl (JL.step (y_assign rfl) rfl rfl rfl (JL.step (y_assign rfl) rfl rfl rfl (JL.step (y_assign rfl) rfl rfl rfl ?_))))))
    refine JL.nil ?_
    refine JE.then_normal ?_
    refine J.seq ?_
    refine J.region ?_
    refine JL.loud rfl (l_callF e35 rfl rfl (words_spec E _) ?_)
    rintro _ _ ⟨rfl, rfl⟩
    refine JL.loud rfl (l_alloc hT rfl rfl (by (first | rfl | simp)) rfl (fun b7 => ?_))
    refine JL.loud rfl (l_storeAll hT rfl rfl rfl rfl (strs_one _) (by (repeat (first | exact Pick.head | apply Pick.tail | apply Pick.app))) rfl ?_)
    refine JL.nil ?_
    refine JE.then_normal ?_
    refine J.seq ?_
    refine J.region ?_
    refine JL.step (y_slice_arr hT rfl rfl rfl rfl (.inl ⟨rfl, rfl⟩) (.inl ⟨rfl, rfl⟩) (by (first | omega | exact Nat.le_of_ble_eq_true rfl | decide | (simp; omega))) (by (first | omega | exact Nat.le_of_ble_eq_true rfl | decide | (simp; omega)))) rfl rfl rfl ?_
    refine JL.step (y_move rfl) rfl rfl rfl ?_
    refine JL.loud rfl (l_callF e36 rfl rfl (windex_spec E (some ⟨b7, 0, none⟩) 8 8 wsL (headW xs) _ rfl (by omega) wsL_bys (headW_bys hB) (InL.ofRow (by (repeat (first | exact Pick.head | apply Pick.tail | apply Pick.app))) (by unfold maxLen; omega))) ?_)
    rintro _ _ ⟨rfl, rfl⟩
    obtain ⟨k, hk⟩ : ∃ k, wIdx wsL (headW xs) = k := ⟨_, rfl⟩
    rw [hk]
    refine JL.step (y_build (cs := [_, _, _, _, _, _, _, _, _, _, _, _, _, _, _, _, _, _, _, _, _, _, _, _, _, _, _, _, _, _, _, _, _, _, _, _]) hT rfl rfl rfl rfl rfl rfl ⟨⟨(by (first | rfl | assumption | (simp; done) | omega)), Nat.le_of_ble_eq_true rfl⟩, trivial⟩ rfl) rfl rfl rfl ?_
    refine JL.loud rfl (l_alloc hT rfl rfl (by (first | rfl | simp)) rfl (fun b9 => ?_))
    refine JL.loud rfl (l_storeAll hT rfl rfl rfl (by (first | rfl | assumption | (simp; done) | omega)) (by (first | assumption | exact ones_of rfl | exact encW_one _ | exact encB_one _ | (intro u hu; simp at hu; rcases hu with rfl | rfl <;> rfl) | (intro u hu; simp at hu; subst hu; rfl) | simp)) (by (repeat (first | exact Pick.head | apply Pick.tail | apply Pick.app))) (by (first | rfl | assumption | (simp; done) | omega)) ?_)
    refine JL.nil ?_
    refine JE.then_normal ?_
    refine J.seq ?_
    refine J.seq ?_
    refine J.region ?_
    refine JL.pre (l' := row b9 27 (cmE ⟨k, [], zer32, [], 0⟩) :: row b7 60 (strs wsL) :: row b2 30 [.int .i64 0, .int .i64 0] :: row b1 27 (cmE cm0) :: l) (fun w h => by
      unfold cm0
      rw [cm_zero, show cmE ⟨0, [], zer32, [], 0⟩ = _ from cm_zero 0]
      exact h.sup (by (repeat (first | exact Sup.refl | apply Sup.cons (by (repeat (first | exact Pick.head | apply Pick.tail | apply Pick.app))) | apply Sup.app | apply Sup.skip | apply Sup.skips)))) ?_
    refine JL.step (y_fieldAddr hT rfl rfl rfl rfl rfl rfl) rfl rfl rfl ?_
    refine JL.step (v := .int .i64 k) (y_load1 hT rfl rfl rfl (Rd1.row (by (repeat (first | exact Pick.head | apply Pick.tail | apply Pick.app))) rfl)) rfl rfl rfl ?_
    refine JL.step (y_lss rfl rfl) rfl rfl rfl ?_
    refine JL.nil ?_
    refine JE.then_normal ?_
    first | apply J.cond_dec rfl | apply J.cond rfl
    case' ht =>
      intro h
      try (first | (exfalso; omega) | (cases h; done) | (exfalso; simp at h; done) | subst h)
      all_goals
        refine J.seq ?_
        refine J.region ?_
        refine JL.step (y_build (cs := [_, _, _, _, _, _, _, _, _, _, _, _, _, _, _, _, _, _, _, _, _, _, _, _, _, _, _, _, _, _, _, _, _, _, _, _]) hT rfl rfl rfl rfl rfl rfl trivial rfl) rfl rfl rfl ?_
        refine JL.step (y_build (cs := [_, _]) hT rfl rfl rfl rfl rfl rfl ⟨⟨(by (first | rfl | assumption | (simp; done) | omega)), Nat.le_of_ble_eq_true rfl⟩, trivial⟩ rfl) rfl rfl rfl ?_
        refine JL.loud rfl (l_storeAll hT rfl rfl rfl (by (first | rfl | assumption | (simp; done) | omega)) (by (first | assumption | exact ones_of rfl | exact encW_one _ | exact encB_one _ | (intro u hu; simp at hu; rcases hu with rfl | rfl <;> rfl) | (intro u hu; simp at hu; subst hu; rfl) | simp)) (by (repeat (first | exact Pick.head | apply Pick.tail | apply Pick.app))) (by (first | rfl | assumption | (simp; done) | omega)) ?_)
        refine JL.loud rfl (l_storeAll hT rfl rfl rfl (by (first | rfl | assumption | (simp; done) | omega)) (by (first | assumption | exact ones_of rfl | exact encW_one _ | exact encB_one _ | (intro u hu; simp at hu; rcases hu with rfl | rfl <;> rfl) | (intro u hu; simp at hu; subst hu; rfl) | simp)) (by (repeat (first | exact Pick.head | apply Pick.tail | apply Pick.app))) (by (first | rfl | assumption | (simp; done) | omega)) ?_)
        refine JL.nil ?_
        refine JE.then_normal ?_
        refine J.ret ?_
        refine JE.then_ret ?_
        refine JE.ret2 (.inl rfl) rfl rfl (by (first | exact RV.tmp rfl | exact RV.cell1 hT rfl rfl rfl (by (exact Rd1.row (by (repeat (first | exact Pick.head | apply Pick.tail | apply Pick.app))) (by rfl))) | exact RV.cellN hT rfl rfl rfl (by (first | exact RdN.rowAll (by (repeat (first | exact Pick.head | apply Pick.tail | apply Pick.app))) | exact RdN.own (by (repeat (first | exact Pick.head | apply Pick.tail | apply Pick.app))))) (by (first | rfl | assumption | (simp; done) | omega)))) (by (first | exact RV.tmp rfl | exact RV.cell1 hT rfl rfl rfl (by (exact Rd1.row (by (repeat (first | exact Pick.head | apply Pick.tail | apply Pick.app))) (by rfl))) | exact RV.cellN hT rfl rfl rfl (by (first | exact RdN.rowAll (by (repeat (first | exact Pick.head | apply Pick.tail | apply Pick.app))) | exact RdN.own (by (repeat (first | exact Pick.head | apply Pick.tail | apply Pick.app))))) (by (first | rfl | assumption | (simp; done) | omega)))) ?_
        first
        | (have zz : 640 < xs.length := by omega
           have hc : cmdF xs = (cm0, 3, 640) := by unfold cmdF; rw [if_pos zz]
           rw [hc]
           unfold cm0
           rw [cm_zero]
           exact ⟨rfl, fun w h => h.sup (by (repeat (first | exact Sup.refl | apply Sup.cons (by (repeat (first | exact Pick.head | apply Pick.tail | apply Pick.app))) | apply Sup.app | apply Sup.skip | apply Sup.skips)))⟩)
        | (have zz : k < 1 := by assumption
           have hc : cmdF xs = (cm0, 340, 0) := by unfold cmdF; rw [if_neg (by omega), if_pos (by omega)]
           rw [hc]
           unfold cm0
           rw [cm_zero]
           exact ⟨rfl, fun w h => h.sup (by (repeat (first | exact Sup.refl | apply Sup.cons (by (repeat (first | exact Pick.head | apply Pick.tail | apply Pick.app))) | apply Sup.app | apply Sup.skip | apply Sup.skips)))⟩)
        | (have zz := hF
           have hc : cmdF xs = (cm0, e, p) := by unfold cmdF; rw [if_neg (by omega), if_neg (by omega), hk, hF]
           rw [hc]
           unfold cm0
           rw [cm_zero]
           exact ⟨rfl, fun w h => h.sup (by (repeat (first | exact Sup.refl | apply Sup.cons (by (repeat (first | exact Pick.head | apply Pick.tail | apply Pick.app))) | apply Sup.app | apply Sup.skip | apply Sup.skips)))⟩)
        | (have zz : a' < xs.length := by omega
           have hc : cmdF xs = (cm0, 340, (a' : Int)) := by unfold cmdF; rw [if_neg (by omega), if_neg (by omega), hk, hF]; simp only; rw [if_pos zz]
           rw [hc]
           unfold cm0
           rw [cm_zero]
           exact ⟨rfl, fun w h => h.sup (by (repeat (first | exact Sup.refl | apply Sup.cons (by (repeat (first | exact Pick.head | apply Pick.tail | apply Pick.app))) | apply Sup.app | apply Sup.skip | apply Sup.skips)))⟩)
        | (have hc : cmdF xs = (c', 0, 0) := by unfold cmdF; rw [if_neg (by omega), if_neg (by omega), hk, hF]; simp only; rw [if_neg (by omega)]
           rw [hc]
           exact ⟨rfl, fun w h => h.sup (by (repeat (first | exact Sup.refl | apply Sup.cons (by (repeat (first | exact Pick.head | apply Pick.tail | apply Pick.app))) | apply Sup.app | apply Sup.skip | apply Sup.skips)))⟩)
    case' hf =>
      intro h
      try (first | (exfalso; omega) | (cases h; done) | (exfalso; simp at h; done) | subst h)
      all_goals
        refine J.skip ?_
    all_goals refine JE.then_normal ?_
    all_goals
      refine J.seq ?_
      refine J.region ?_
      refine JL.step (y_move rfl) rfl rfl rfl (JL.step (y_move rfl) rfl rfl rfl ?_)
      refine JL.step (y_lenS hT rfl rfl rfl) rfl rfl rfl ?_
      refine JL.step (y_build (cs := [_, _, _, _]) hT rfl rfl rfl rfl rfl rfl ⟨⟨(by (first | rfl | assumption | (simp; done) | omega)), Nat.le_of_ble_eq_true rfl⟩, ⟨⟨(by (first | rfl | assumption | (simp; done) | omega)), Nat.le_of_ble_eq_true rfl⟩, trivial⟩⟩ rfl) rfl rfl rfl ?_
      refine JL.loud rfl (l_box rfl (by (first | rfl | simp)) rfl (fun b13 => ?_))
      refine JL.step (y_assign rfl) rfl rfl rfl ?_
      refine JL.nil ?_
      refine JE.then_normal ?_
      refine J.seq ?_
      refine J.seq ?_
      refine J.region ?_
      refine JL.pre (l' := row b13 65 (rdE xs (headW xs).length 0 0) :: row b9 27 (cmE ⟨k, [], zer32, [], 0⟩) :: row b7 60 (strs wsL) :: row b2 30 [.int .i64 0, .int .i64 0] :: row b1 27 (cmE cm0) :: l) (fun w h => h.sup (by (repeat (first | exact Sup.refl | apply Sup.cons (by (repeat (first | exact Pick.head | apply Pick.tail | apply Pick.app))) | apply Sup.app | apply Sup.skip | apply Sup.skips)))) ?_
      refine JL.step (y_move rfl) rfl rfl rfl ?_
      refine JL.loud rfl (l_callF e37 rfl rfl (rest_spec E b13 b9 xs (headW xs).length k _ hB hl (headW_le xs) (((hK.cons _).cons _).cons _)) ?_)
      rintro v2 l2 hR
      rcases hR with ⟨a', c', hF, ha', rfl, rfl⟩ | ⟨e, p, a', c', hF, rfl, rfl⟩
      all_goals refine JL.step (y_not rfl) rfl rfl rfl ?_
      all_goals refine JL.nil ?_
      all_goals refine JE.then_normal ?_
      all_goals
        first | apply J.cond_dec rfl | apply J.cond rfl
        case' ht =>
          intro h
          try (first | (exfalso; omega) | (cases h; done) | (exfalso; simp at h; done) | subst h)
          all_goals
            refine J.seq ?_
            refine J.draw _ _ [(0, .q), (1, .q), (2, .q), (3, .q), (4, .q), (5, .l), (6, .l)] mixed (by kernel_rfl) (Split.cons (Pick.tail (Pick.tail (Pick.tail Pick.head))) (Split.cons (Pick.tail (Pick.tail (Pick.tail Pick.head))) (Split.nil))) ?_
            refine JM.quiet rfl rfl rfl rfl (fun m => y_build (cs := [_, _, _, _, _, _, _, _, _, _, _, _, _, _, _, _, _, _, _, _, _, _, _, _, _, _, _, _, _, _, _, _, _, _, _, _]) hT rfl rfl rfl rfl rfl rfl trivial rfl) ?_
            refine JM.quiet rfl rfl rfl rfl (fun m => y_move rfl) ?_
            refine JM.quiet rfl rfl rfl rfl (fun m => (by first | exact y_nilCheck rfl | exact y_nilCheckF rfl | exact y_nilCheckY rfl)) ?_
            refine JM.quiet rfl rfl rfl rfl (fun m => y_fieldAddr hT rfl rfl rfl rfl rfl rfl) ?_
            refine JM.quiet rfl rfl rfl rfl (fun m => y_loadN hT rfl rfl rfl (RdN.row (n := 2) (vs := [.int .i64 e, .int .i64 p]) (Pick.app m (by (repeat (first | exact Pick.head | apply Pick.tail | apply Pick.app)))) rfl) rfl) ?_
            refine JM.loud rfl rfl (fun fr => l_storeAll hT rfl rfl rfl (by (first | rfl | assumption | (simp; done) | omega)) (by (first | assumption | exact ones_of rfl | exact encW_one _ | exact encB_one _ | (intro u hu; simp at hu; rcases hu with rfl | rfl <;> rfl) | (intro u hu; simp at hu; subst hu; rfl) | simp)) (by (repeat (first | exact Pick.head | apply Pick.tail | apply Pick.app))) (by (first | rfl | assumption | (simp; done) | omega)) (⟨[_, _], (by (repeat (first | exact Split.nil | exact Split.all | refine Split.cons Pick.head ?_))), ?_⟩))
            refine JM.loud rfl rfl (fun fr => l_storeAll hT rfl rfl rfl (by (first | rfl | assumption | (simp; done) | omega)) (by (first | assumption | exact ones_of rfl | exact encW_one _ | exact encB_one _ | (intro u hu; simp at hu; rcases hu with rfl | rfl <;> rfl) | (intro u hu; simp at hu; subst hu; rfl) | simp)) (by (repeat (first | exact Pick.head | apply Pick.tail | apply Pick.app))) (by (first | rfl | assumption | (simp; done) | omega)) (⟨[_, _], (by (repeat (first | exact Split.nil | exact Split.all | refine Split.cons Pick.head ?_))), ?_⟩))
            refine JM.nil ?_
            refine JE.then_normal ?_
            refine J.ret ?_
            refine JE.then_ret ?_
            refine JE.ret2 (.inl rfl) rfl rfl (by (first | exact RV.tmp rfl | exact RV.cell1 hT rfl rfl rfl (by (exact Rd1.row (by (repeat (first | exact Pick.head | apply Pick.tail | apply Pick.app))) (by rfl))) | exact RV.cellN hT rfl rfl rfl (by (first | exact RdN.rowAll (by (repeat (first | exact Pick.head | apply Pick.tail | apply Pick.app))) | exact RdN.own (by (repeat (first | exact Pick.head | apply Pick.tail | apply Pick.app))))) (by (first | rfl | assumption | (simp; done) | omega)))) (by (first | exact RV.tmp rfl | exact RV.cell1 hT rfl rfl rfl (by (exact Rd1.row (by (repeat (first | exact Pick.head | apply Pick.tail | apply Pick.app))) (by rfl))) | exact RV.cellN hT rfl rfl rfl (by (first | exact RdN.rowAll (by (repeat (first | exact Pick.head | apply Pick.tail | apply Pick.app))) | exact RdN.own (by (repeat (first | exact Pick.head | apply Pick.tail | apply Pick.app))))) (by (first | rfl | assumption | (simp; done) | omega)))) ?_
            first
            | (have zz : 640 < xs.length := by omega
               have hc : cmdF xs = (cm0, 3, 640) := by unfold cmdF; rw [if_pos zz]
               rw [hc]
               unfold cm0
               rw [cm_zero]
               exact ⟨rfl, fun w h => h.sup (by (repeat (first | exact Sup.refl | apply Sup.cons (by (repeat (first | exact Pick.head | apply Pick.tail | apply Pick.app))) | apply Sup.app | apply Sup.skip | apply Sup.skips)))⟩)
            | (have zz : k < 1 := by assumption
               have hc : cmdF xs = (cm0, 340, 0) := by unfold cmdF; rw [if_neg (by omega), if_pos (by omega)]
               rw [hc]
               unfold cm0
               rw [cm_zero]
               exact ⟨rfl, fun w h => h.sup (by (repeat (first | exact Sup.refl | apply Sup.cons (by (repeat (first | exact Pick.head | apply Pick.tail | apply Pick.app))) | apply Sup.app | apply Sup.skip | apply Sup.skips)))⟩)
            | (have zz := hF
               have hc : cmdF xs = (cm0, e, p) := by unfold cmdF; rw [if_neg (by omega), if_neg (by omega), hk, hF]
               rw [hc]
               unfold cm0
               rw [cm_zero]
               exact ⟨rfl, fun w h => h.sup (by (repeat (first | exact Sup.refl | apply Sup.cons (by (repeat (first | exact Pick.head | apply Pick.tail | apply Pick.app))) | apply Sup.app | apply Sup.skip | apply Sup.skips)))⟩)
            | (have zz : a' < xs.length := by omega
               have hc : cmdF xs = (cm0, 340, (a' : Int)) := by unfold cmdF; rw [if_neg (by omega), if_neg (by omega), hk, hF]; simp only; rw [if_pos zz]
               rw [hc]
               unfold cm0
               rw [cm_zero]
               exact ⟨rfl, fun w h => h.sup (by (repeat (first | exact Sup.refl | apply Sup.cons (by (repeat (first | exact Pick.head | apply Pick.tail | apply Pick.app))) | apply Sup.app | apply Sup.skip | apply Sup.skips)))⟩)
            | (have hc : cmdF xs = (c', 0, 0) := by unfold cmdF; rw [if_neg (by omega), if_neg (by omega), hk, hF]; simp only; rw [if_neg (by omega)]
               rw [hc]
               exact ⟨rfl, fun w h => h.sup (by (repeat (first | exact Sup.refl | apply Sup.cons (by (repeat (first | exact Pick.head | apply Pick.tail | apply Pick.app))) | apply Sup.app | apply Sup.skip | apply Sup.skips)))⟩)
        case' hf =>
          intro h
          try (first | (exfalso; omega) | (cases h; done) | (exfalso; simp at h; done) | subst h)
          all_goals
            refine J.skip ?_
      all_goals refine JE.then_normal ?_
      all_goals
        refine J.seq ?_
        refine J.seq ?_
        obtain ⟨hcok, hck⟩ := restF_ok hB hF
        have hcl : (cmE c').length = i27.size := cmE_length hcok.key
        have hone := cmE_one c'
        refine J.region ?_
        refine JL.step (y_move rfl) rfl rfl rfl ?_
        refine JL.step ((by first | exact y_nilCheck rfl | exact y_nilCheckF rfl | exact y_nilCheckY rfl)) rfl rfl rfl ?_
        refine JL.step (y_fieldAddr hT rfl rfl rfl rfl rfl rfl) rfl rfl rfl ?_
        refine JL.step (y_load1 hT rfl rfl rfl (by (exact Rd1.row (by (repeat (first | exact Pick.head | apply Pick.tail | apply Pick.app))) (by rfl)))) rfl rfl rfl ?_
        refine JL.step (y_move rfl) rfl rfl rfl ?_
        refine JL.step (y_lenS hT rfl rfl rfl) rfl rfl rfl ?_
        refine JL.step (y_lss rfl rfl) rfl rfl rfl ?_
        refine JL.nil ?_
        refine JE.then_normal ?_
        first | apply J.cond_dec rfl | apply J.cond rfl
        case' ht =>
          intro h
          try (first | (exfalso; omega) | (cases h; done) | (exfalso; simp at h; done) | subst h)
          all_goals
            refine J.seq ?_
            refine J.draw _ _ [(0, .q), (1, .q), (2, .q), (3, .q), (4, .q), (5, .q), (6, .l), (7, .l)] mixed (by kernel_rfl) (Split.cons (Pick.tail (Pick.tail (Pick.tail Pick.head))) (Split.cons (Pick.tail (Pick.tail (Pick.tail Pick.head))) (Split.nil))) ?_
            refine JM.quiet rfl rfl rfl rfl (fun m => y_build (cs := [_, _, _, _, _, _, _, _, _, _, _, _, _, _, _, _, _, _, _, _, _, _, _, _, _, _, _, _, _, _, _, _, _, _, _, _]) hT rfl rfl rfl rfl rfl rfl trivial rfl) ?_
            refine JM.quiet rfl rfl rfl rfl (fun m => y_move rfl) ?_
            refine JM.quiet rfl rfl rfl rfl (fun m => (by first | exact y_nilCheck rfl | exact y_nilCheckF rfl | exact y_nilCheckY rfl)) ?_
            refine JM.quiet rfl rfl rfl rfl (fun m => y_fieldAddr hT rfl rfl rfl rfl rfl rfl) ?_
            refine JM.quiet rfl rfl rfl rfl (fun m => y_load1 hT rfl rfl rfl (by (exact Rd1.row (Pick.app m (by (repeat (first | exact Pick.head | apply Pick.tail | apply Pick.app)))) (by rfl)))) ?_
            refine JM.quiet rfl rfl rfl rfl (fun m => y_build (cs := [_, _]) hT rfl rfl rfl rfl rfl rfl ⟨⟨(by (first | rfl | assumption | (simp; done) | omega)), Nat.le_of_ble_eq_true rfl⟩, ⟨⟨(by (first | rfl | assumption | (simp; done) | omega)), Nat.le_of_ble_eq_true rfl⟩, trivial⟩⟩ rfl) ?_
            refine JM.loud rfl rfl (fun fr => l_storeAll hT rfl rfl rfl (by (first | rfl | assumption | (simp; done) | omega)) (by (first | assumption | exact ones_of rfl | exact encW_one _ | exact encB_one _ | (intro u hu; simp at hu; rcases hu with rfl | rfl <;> rfl) | (intro u hu; simp at hu; subst hu; rfl) | simp)) (by (repeat (first | exact Pick.head | apply Pick.tail | apply Pick.app))) (by (first | rfl | assumption | (simp; done) | omega)) (⟨[_, _], (by (repeat (first | exact Split.nil | exact Split.all | refine Split.cons Pick.head ?_))), ?_⟩))
            refine JM.loud rfl rfl (fun fr => l_storeAll hT rfl rfl rfl (by (first | rfl | assumption | (simp; done) | omega)) (by (first | assumption | exact ones_of rfl | exact encW_one _ | exact encB_one _ | (intro u hu; simp at hu; rcases hu with rfl | rfl <;> rfl) | (intro u hu; simp at hu; subst hu; rfl) | simp)) (by (repeat (first | exact Pick.head | apply Pick.tail | apply Pick.app))) (by (first | rfl | assumption | (simp; done) | omega)) (⟨[_, _], (by (repeat (first | exact Split.nil | exact Split.all | refine Split.cons Pick.head ?_))), ?_⟩))
            refine JM.nil ?_
            refine JE.then_normal ?_
            refine J.ret ?_
            refine JE.then_ret ?_
            refine JE.ret2 (.inl rfl) rfl rfl (by (first | exact RV.tmp rfl | exact RV.cell1 hT rfl rfl rfl (by (exact Rd1.row (by (repeat (first | exact Pick.head | apply Pick.tail | apply Pick.app))) (by rfl))) | exact RV.cellN hT rfl rfl rfl (by (first | exact RdN.rowAll (by (repeat (first | exact Pick.head | apply Pick.tail | apply Pick.app))) | exact RdN.own (by (repeat (first | exact Pick.head | apply Pick.tail | apply Pick.app))))) (by (first | rfl | assumption | (simp; done) | omega)))) (by (first | exact RV.tmp rfl | exact RV.cell1 hT rfl rfl rfl (by (exact Rd1.row (by (repeat (first | exact Pick.head | apply Pick.tail | apply Pick.app))) (by rfl))) | exact RV.cellN hT rfl rfl rfl (by (first | exact RdN.rowAll (by (repeat (first | exact Pick.head | apply Pick.tail | apply Pick.app))) | exact RdN.own (by (repeat (first | exact Pick.head | apply Pick.tail | apply Pick.app))))) (by (first | rfl | assumption | (simp; done) | omega)))) ?_
            first
            | (have zz : 640 < xs.length := by omega
               have hc : cmdF xs = (cm0, 3, 640) := by unfold cmdF; rw [if_pos zz]
               rw [hc]
               unfold cm0
               rw [cm_zero]
               exact ⟨rfl, fun w h => h.sup (by (repeat (first | exact Sup.refl | apply Sup.cons (by (repeat (first | exact Pick.head | apply Pick.tail | apply Pick.app))) | apply Sup.app | apply Sup.skip | apply Sup.skips)))⟩)
            | (have zz : k < 1 := by assumption
               have hc : cmdF xs = (cm0, 340, 0) := by unfold cmdF; rw [if_neg (by omega), if_pos (by omega)]
               rw [hc]
               unfold cm0
               rw [cm_zero]
               exact ⟨rfl, fun w h => h.sup (by (repeat (first | exact Sup.refl | apply Sup.cons (by (repeat (first | exact Pick.head | apply Pick.tail | apply Pick.app))) | apply Sup.app | apply Sup.skip | apply Sup.skips)))⟩)
            | (have zz := hF
               have hc : cmdF xs = (cm0, e, p) := by unfold cmdF; rw [if_neg (by omega), if_neg (by omega), hk, hF]
               rw [hc]
               unfold cm0
               rw [cm_zero]
               exact ⟨rfl, fun w h => h.sup (by (repeat (first | exact Sup.refl | apply Sup.cons (by (repeat (first | exact Pick.head | apply Pick.tail | apply Pick.app))) | apply Sup.app | apply Sup.skip | apply Sup.skips)))⟩)
            | (have zz : a' < xs.length := by omega
               have hc : cmdF xs = (cm0, 340, (a' : Int)) := by unfold cmdF; rw [if_neg (by omega), if_neg (by omega), hk, hF]; simp only; rw [if_pos zz]
               rw [hc]
               unfold cm0
               rw [cm_zero]
               exact ⟨rfl, fun w h => h.sup (by (repeat (first | exact Sup.refl | apply Sup.cons (by (repeat (first | exact Pick.head | apply Pick.tail | apply Pick.app))) | apply Sup.app | apply Sup.skip | apply Sup.skips)))⟩)
            | (have hc : cmdF xs = (c', 0, 0) := by unfold cmdF; rw [if_neg (by omega), if_neg (by omega), hk, hF]; simp only; rw [if_neg (by omega)]
               rw [hc]
               exact ⟨rfl, fun w h => h.sup (by (repeat (first | exact Sup.refl | apply Sup.cons (by (repeat (first | exact Pick.head | apply Pick.tail | apply Pick.app))) | apply Sup.app | apply Sup.skip | apply Sup.skips)))⟩)
        case' hf =>
          intro h
          try (first | (exfalso; omega) | (cases h; done) | (exfalso; simp at h; done) | subst h)
          all_goals
            refine J.skip ?_
        all_goals refine JE.then_normal ?_
        all_goals
          refine J.seq ?_
          refine J.region ?_
          refine JL.step (y_loadN hT rfl rfl rfl (by (first | exact RdN.rowAll (by (repeat (first | exact Pick.head | apply Pick.tail | apply Pick.app))) | exact RdN.own (by (repeat (first | exact Pick.head | apply Pick.tail | apply Pick.app))))) (by (first | rfl | assumption | (simp; done) | omega))) rfl rfl rfl ?_
          refine JL.step (y_build (cs := [_, _]) hT rfl rfl rfl rfl rfl rfl trivial rfl) rfl rfl rfl ?_
          refine JL.loud rfl (l_storeAll hT rfl rfl rfl (by (first | rfl | assumption | (simp; done) | omega)) (by (first | assumption | exact ones_of rfl | exact encW_one _ | exact encB_one _ | (intro u hu; simp at hu; rcases hu with rfl | rfl <;> rfl) | (intro u hu; simp at hu; subst hu; rfl) | simp)) (by (repeat (first | exact Pick.head | apply Pick.tail | apply Pick.app))) (by (first | rfl | assumption | (simp; done) | omega)) ?_)
          refine JL.loud rfl (l_storeAll hT rfl rfl rfl (by (first | rfl | assumption | (simp; done) | omega)) (by (first | assumption | exact ones_of rfl | exact encW_one _ | exact encB_one _ | (intro u hu; simp at hu; rcases hu with rfl | rfl <;> rfl) | (intro u hu; simp at hu; subst hu; rfl) | simp)) (by (repeat (first | exact Pick.head | apply Pick.tail | apply Pick.app))) (by (first | rfl | assumption | (simp; done) | omega)) ?_)
          refine JL.nil ?_
          refine JE.then_normal ?_
          refine J.ret ?_
          refine JE.ret2 (.inl rfl) rfl rfl (by (first | exact RV.tmp rfl | exact RV.cell1 hT rfl rfl rfl (by (exact Rd1.row (by (repeat (first | exact Pick.head | apply Pick.tail | apply Pick.app))) (by rfl))) | exact RV.cellN hT rfl rfl rfl (by (first | exact RdN.rowAll (by (repeat (first | exact Pick.head | apply Pick.tail | apply Pick.app))) | exact RdN.own (by (repeat (first | exact Pick.head | apply Pick.tail | apply Pick.app))))) (by (first | rfl | assumption | (simp; done) | omega)))) (by (first | exact RV.tmp rfl | exact RV.cell1 hT rfl rfl rfl (by (exact Rd1.row (by (repeat (first | exact Pick.head | apply Pick.tail | apply Pick.app))) (by rfl))) | exact RV.cellN hT rfl rfl rfl (by (first | exact RdN.rowAll (by (repeat (first | exact Pick.head | apply Pick.tail | apply Pick.app))) | exact RdN.own (by (repeat (first | exact Pick.head | apply Pick.tail | apply Pick.app))))) (by (first | rfl | assumption | (simp; done) | omega)))) ?_
          first
          | (have zz : 640 < xs.length := by omega
             have hc : cmdF xs = (cm0, 3, 640) := by unfold cmdF; rw [if_pos zz]
             rw [hc]
             unfold cm0
             rw [cm_zero]
             exact ⟨rfl, fun w h => h.sup (by (repeat (first | exact Sup.refl | apply Sup.cons (by (repeat (first | exact Pick.head | apply Pick.tail | apply Pick.app))) | apply Sup.app | apply Sup.skip | apply Sup.skips)))⟩)
          | (have zz : k < 1 := by assumption
             have hc : cmdF xs = (cm0, 340, 0) := by unfold cmdF; rw [if_neg (by omega), if_pos (by omega)]
             rw [hc]
             unfold cm0
             rw [cm_zero]
             exact ⟨rfl, fun w h => h.sup (by (repeat (first | exact Sup.refl | apply Sup.cons (by (repeat (first | exact Pick.head | apply Pick.tail | apply Pick.app))) | apply Sup.app | apply Sup.skip | apply Sup.skips)))⟩)
          | (have zz := hF
             have hc : cmdF xs = (cm0, e, p) := by unfold cmdF; rw [if_neg (by omega), if_neg (by omega), hk, hF]
             rw [hc]
             unfold cm0
             rw [cm_zero]
             exact ⟨rfl, fun w h => h.sup (by (repeat (first | exact Sup.refl | apply Sup.cons (by (repeat (first | exact Pick.head | apply Pick.tail | apply Pick.app))) | apply Sup.app | apply Sup.skip | apply Sup.skips)))⟩)
          | (have zz : a' < xs.length := by omega
             have hc : cmdF xs = (cm0, 340, (a' : Int)) := by unfold cmdF; rw [if_neg (by omega), if_neg (by omega), hk, hF]; simp only; rw [if_pos zz]
             rw [hc]
             unfold cm0
             rw [cm_zero]
             exact ⟨rfl, fun w h => h.sup (by (repeat (first | exact Sup.refl | apply Sup.cons (by (repeat (first | exact Pick.head | apply Pick.tail | apply Pick.app))) | apply Sup.app | apply Sup.skip | apply Sup.skips)))⟩)
          | (have hc : cmdF xs = (c', 0, 0) := by unfold cmdF; rw [if_neg (by omega), if_neg (by omega), hk, hF]; simp only; rw [if_neg (by omega)]
             rw [hc]
             exact ⟨rfl, fun w h => h.sup (by (repeat (first | exact Sup.refl | apply Sup.cons (by (repeat (first | exact Pick.head | apply Pick.tail | apply Pick.app))) | apply Sup.app | apply Sup.skip | apply Sup.skips)))⟩)
end
end
end Go.Proofs.YtccagffapohkhaaGreatDoor
