/- Texts of racks, walked. The library's strconv.ParseInt, strconv.FormatInt, strings.Index, strings.Count; impl.readDecimal over them. -/
import Derived.Shelf.LaysM
import Derived.Shelf.LaysC
import Derived.Shelf.Strconv.Itoa4
import Derived.Shelf.Strconv.ParseIntPublic10
import Derived.Shelf.Strings.Search3
import Derived.Shelf.Strings.Count
import Derived.Shelf.Strings.OnBuilder
import Derived.Shelf.Strings.BuilderX
import Derived.Shelf.Strings.BuilderK
import Derived.WalkKit
import Derived.Deep.RegionHeld3
import Derived.IntWalk
import Derived.Deep.AppendLies
import Derived.Tactics2
import Derived.StillTactics
import Derived.WalkSpells
import Derived.Laws.Pointers
import Derived.Carry
import Derived.Test.YteaodjahafgbcaaDoorProg
import Derived.Ground.NamesProg
import Derived.KernelRfl
import Derived.Below
import Derived.Lib.ParseIntBTie
import Derived.Laws.Strings
import Derived.Lib.AtoiTie
namespace Go.Proofs
open Go.Shelf
def Tryd.laysM173_ren : Go.Shelf.Ren := ⟨fun | 173 => 44 | 246 => 59 | 283 => 72 | 284 => 73 | 285 => 74 | 286 => 75 | 129 => 90 | 317 => 89 | 318 => 91 | 319 => 92 | 320 => 93 | 337 => 102 | 338 => 103 | n => n, fun | 2 => 2 | 3 => 3 | 9 => 9 | 4 => 4 | 171 => 104 | 0 => 0 | 53 => 105 | 37 => 40 | 5 => 5 | 173 => 108 | 212 => 124 | 51 => 125 | 20 => 20 | 213 => 126 | 46 => 116 | 232 => 144 | 233 => 145 | n => n, fun | 17 => 1 | 18 => 6 | 19 => 7 | n => n⟩
theorem Tryd.laysM173 : Go.Proofs.LaysM.n173 Tryd.prog Tryd.laysM173_ren := {
  mixed := by kernel_rfl
  f129 := Tryd.func90.trans (congrArg some (by kernel_rfl))
  f173 := Tryd.func44.trans (congrArg some (by kernel_rfl))
  f246 := Tryd.func59.trans (congrArg some (by kernel_rfl))
  f283 := Tryd.func72.trans (congrArg some (by kernel_rfl))
  f284 := Tryd.func73.trans (congrArg some (by kernel_rfl))
  f285 := Tryd.func74.trans (congrArg some (by kernel_rfl))
  f286 := Tryd.func75.trans (congrArg some (by kernel_rfl))
  f317 := Tryd.func89.trans (congrArg some (by kernel_rfl))
  f318 := Tryd.func91.trans (congrArg some (by kernel_rfl))
  f319 := Tryd.func92.trans (congrArg some (by kernel_rfl))
  f320 := Tryd.func93.trans (congrArg some (by kernel_rfl))
  f337 := Tryd.func102.trans (congrArg some (by kernel_rfl))
  f338 := Tryd.func103.trans (congrArg some (by kernel_rfl))
  t0 := Tryd.underlying0
  a0 := Tryd.isAgg0
  z0 := Tryd.sizeOf0
  v0 := Tryd.zeroValue0
  t2 := Tryd.underlying2
  a2 := Tryd.isAgg2
  z2 := Tryd.sizeOf2
  v2 := Tryd.zeroValue2
  t3 := Tryd.underlying3
  a3 := Tryd.isAgg3
  z3 := Tryd.sizeOf3
  v3 := Tryd.zeroValue3
  t4 := Tryd.underlying4
  a4 := Tryd.isAgg4
  z4 := Tryd.sizeOf4
  v4 := Tryd.zeroValue4
  t5 := Tryd.underlying5
  a5 := Tryd.isAgg5
  z5 := Tryd.sizeOf5
  v5 := Tryd.zeroValue5
  t9 := Tryd.underlying9
  a9 := Tryd.isAgg9
  z9 := Tryd.sizeOf9
  v9 := Tryd.zeroValue9
  t20 := Tryd.underlying20
  a20 := Tryd.isAgg20
  z20 := Tryd.sizeOf20
  v20 := Tryd.zeroValue20
  t37 := Tryd.underlying40
  a37 := Tryd.isAgg40
  z37 := Tryd.sizeOf40
  v37 := Tryd.zeroValue40
  t46 := Tryd.underlying116
  a46 := Tryd.isAgg116
  z46 := Tryd.sizeOf116
  v46 := Tryd.zeroValue116
  t51 := Tryd.underlying125
  a51 := Tryd.isAgg125
  z51 := Tryd.sizeOf125
  v51 := Tryd.zeroValue125
  t53 := Tryd.underlying105
  a53 := Tryd.isAgg105
  z53 := Tryd.sizeOf105
  v53 := Tryd.zeroValue105
  t171 := Tryd.underlying104
  a171 := Tryd.isAgg104
  z171 := Tryd.sizeOf104
  v171 := Tryd.zeroValue104
  t173 := Tryd.underlying108
  a173 := Tryd.isAgg108
  z173 := Tryd.sizeOf108
  v173 := Tryd.zeroValue108
  t212 := Tryd.underlying124
  a212 := Tryd.isAgg124
  z212 := Tryd.sizeOf124
  v212 := Tryd.zeroValue124
  t213 := Tryd.underlying126
  a213 := Tryd.isAgg126
  z213 := Tryd.sizeOf126
  t232 := Tryd.underlying144
  a232 := Tryd.isAgg144
  z232 := Tryd.sizeOf144
  v232 := Tryd.zeroValue144
  t233 := Tryd.underlying145
  a233 := Tryd.isAgg145
  z233 := Tryd.sizeOf145
  v233 := Tryd.zeroValue145
  g17 := by kernel_rfl
  g18 := by kernel_rfl
  g19 := by kernel_rfl
  i0 := by kernel_rfl
  i2 := by kernel_rfl
  i3 := by kernel_rfl
  i4 := by kernel_rfl
  i5 := by kernel_rfl
  i9 := by kernel_rfl
  i20 := by kernel_rfl
  i37 := by kernel_rfl
  i46 := by kernel_rfl
  i51 := by kernel_rfl
  i53 := by kernel_rfl
  i171 := by kernel_rfl
  i173 := by kernel_rfl
  i212 := by kernel_rfl
  i232 := by kernel_rfl
  i233 := by kernel_rfl
  m17 := by kernel_rfl
  m18 := by kernel_rfl
  m19 := by kernel_rfl }
def Tryd.laysC174_ren : Go.Shelf.Ren := ⟨fun | 174 => 53 | 247 => 69 | 245 => 70 | 287 => 84 | 279 => 85 | 280 => 86 | 281 => 87 | 282 => 88 | 321 => 97 | 322 => 98 | 316 => 99 | 171 => 101 | 205 => 100 | 243 => 104 | 246 => 59 | 283 => 72 | 284 => 73 | 285 => 74 | 286 => 75 | 129 => 90 | 317 => 89 | 318 => 91 | 319 => 92 | 320 => 93 | 337 => 102 | 338 => 103 | n => n, fun | 9 => 9 | 3 => 3 | 2 => 2 | 75 => 52 | 85 => 88 | 4 => 4 | 167 => 117 | 5 => 5 | 53 => 105 | 175 => 118 | 46 => 116 | 168 => 120 | 37 => 40 | 0 => 0 | 210 => 134 | 21 => 21 | 127 => 82 | 145 => 143 | 143 => 141 | 171 => 104 | 173 => 108 | 212 => 124 | 51 => 125 | 20 => 20 | 213 => 126 | 232 => 144 | 233 => 145 | 80 => 56 | n => n, fun | 15 => 2 | 16 => 3 | 17 => 1 | 18 => 6 | 19 => 7 | n => n⟩
theorem Tryd.laysC174 : Go.Proofs.LaysC.n174 Tryd.prog Tryd.laysC174_ren := {
  mixed := by kernel_rfl
  f129 := Tryd.func90.trans (congrArg some (by kernel_rfl))
  f171 := Tryd.func101.trans (congrArg some (by kernel_rfl))
  f174 := Tryd.func53.trans (congrArg some (by kernel_rfl))
  f205 := Tryd.func100.trans (congrArg some (by kernel_rfl))
  f243 := Tryd.func104.trans (congrArg some (by kernel_rfl))
  f245 := Tryd.func70.trans (congrArg some (by kernel_rfl))
  f246 := Tryd.func59.trans (congrArg some (by kernel_rfl))
  f247 := Tryd.func69.trans (congrArg some (by kernel_rfl))
  f279 := Tryd.func85.trans (congrArg some (by kernel_rfl))
  f280 := Tryd.func86.trans (congrArg some (by kernel_rfl))
  f281 := Tryd.func87.trans (congrArg some (by kernel_rfl))
  f282 := Tryd.func88.trans (congrArg some (by kernel_rfl))
  f283 := Tryd.func72.trans (congrArg some (by kernel_rfl))
  f284 := Tryd.func73.trans (congrArg some (by kernel_rfl))
  f285 := Tryd.func74.trans (congrArg some (by kernel_rfl))
  f286 := Tryd.func75.trans (congrArg some (by kernel_rfl))
  f287 := Tryd.func84.trans (congrArg some (by kernel_rfl))
  f316 := Tryd.func99.trans (congrArg some (by kernel_rfl))
  f317 := Tryd.func89.trans (congrArg some (by kernel_rfl))
  f318 := Tryd.func91.trans (congrArg some (by kernel_rfl))
  f319 := Tryd.func92.trans (congrArg some (by kernel_rfl))
  f320 := Tryd.func93.trans (congrArg some (by kernel_rfl))
  f321 := Tryd.func97.trans (congrArg some (by kernel_rfl))
  f322 := Tryd.func98.trans (congrArg some (by kernel_rfl))
  f337 := Tryd.func102.trans (congrArg some (by kernel_rfl))
  f338 := Tryd.func103.trans (congrArg some (by kernel_rfl))
  t0 := Tryd.underlying0
  a0 := Tryd.isAgg0
  z0 := Tryd.sizeOf0
  v0 := Tryd.zeroValue0
  t2 := Tryd.underlying2
  a2 := Tryd.isAgg2
  z2 := Tryd.sizeOf2
  v2 := Tryd.zeroValue2
  t3 := Tryd.underlying3
  a3 := Tryd.isAgg3
  z3 := Tryd.sizeOf3
  v3 := Tryd.zeroValue3
  t4 := Tryd.underlying4
  a4 := Tryd.isAgg4
  z4 := Tryd.sizeOf4
  v4 := Tryd.zeroValue4
  t5 := Tryd.underlying5
  a5 := Tryd.isAgg5
  z5 := Tryd.sizeOf5
  v5 := Tryd.zeroValue5
  t9 := Tryd.underlying9
  a9 := Tryd.isAgg9
  z9 := Tryd.sizeOf9
  v9 := Tryd.zeroValue9
  t20 := Tryd.underlying20
  a20 := Tryd.isAgg20
  z20 := Tryd.sizeOf20
  v20 := Tryd.zeroValue20
  t21 := Tryd.underlying21
  a21 := Tryd.isAgg21
  z21 := Tryd.sizeOf21
  v21 := Tryd.zeroValue21
  t37 := Tryd.underlying40
  a37 := Tryd.isAgg40
  z37 := Tryd.sizeOf40
  v37 := Tryd.zeroValue40
  t46 := Tryd.underlying116
  a46 := Tryd.isAgg116
  z46 := Tryd.sizeOf116
  v46 := Tryd.zeroValue116
  t51 := Tryd.underlying125
  a51 := Tryd.isAgg125
  z51 := Tryd.sizeOf125
  v51 := Tryd.zeroValue125
  t53 := Tryd.underlying105
  a53 := Tryd.isAgg105
  z53 := Tryd.sizeOf105
  v53 := Tryd.zeroValue105
  t75 := Tryd.underlying52
  a75 := Tryd.isAgg52
  z75 := Tryd.sizeOf52
  v75 := Tryd.zeroValue52
  t85 := Tryd.underlying88
  a85 := Tryd.isAgg88
  z85 := Tryd.sizeOf88
  v85 := Tryd.zeroValue88
  t127 := Tryd.underlying82
  a127 := Tryd.isAgg82
  z127 := Tryd.sizeOf82
  v127 := Tryd.zeroValue82
  t143 := Tryd.underlying141
  a143 := Tryd.isAgg141
  z143 := Tryd.sizeOf141
  v143 := Tryd.zeroValue141
  t145 := Tryd.underlying143
  a145 := Tryd.isAgg143
  z145 := Tryd.sizeOf143
  v145 := Tryd.zeroValue143
  t167 := Tryd.underlying117
  a167 := Tryd.isAgg117
  z167 := Tryd.sizeOf117
  v167 := Tryd.zeroValue117
  t168 := Tryd.underlying120
  a168 := Tryd.isAgg120
  z168 := Tryd.sizeOf120
  v168 := Tryd.zeroValue120
  t171 := Tryd.underlying104
  a171 := Tryd.isAgg104
  z171 := Tryd.sizeOf104
  v171 := Tryd.zeroValue104
  t173 := Tryd.underlying108
  a173 := Tryd.isAgg108
  z173 := Tryd.sizeOf108
  v173 := Tryd.zeroValue108
  t175 := Tryd.underlying118
  a175 := Tryd.isAgg118
  z175 := Tryd.sizeOf118
  v175 := Tryd.zeroValue118
  t210 := Tryd.underlying134
  a210 := Tryd.isAgg134
  z210 := Tryd.sizeOf134
  v210 := Tryd.zeroValue134
  t212 := Tryd.underlying124
  a212 := Tryd.isAgg124
  z212 := Tryd.sizeOf124
  v212 := Tryd.zeroValue124
  t213 := Tryd.underlying126
  a213 := Tryd.isAgg126
  z213 := Tryd.sizeOf126
  t232 := Tryd.underlying144
  a232 := Tryd.isAgg144
  z232 := Tryd.sizeOf144
  v232 := Tryd.zeroValue144
  t233 := Tryd.underlying145
  a233 := Tryd.isAgg145
  z233 := Tryd.sizeOf145
  v233 := Tryd.zeroValue145
  g15 := by kernel_rfl
  g16 := by kernel_rfl
  g17 := by kernel_rfl
  g18 := by kernel_rfl
  g19 := by kernel_rfl
  t80 := Tryd.underlying56
  a80 := Tryd.isAgg56
  z80 := Tryd.sizeOf56
  v80 := Tryd.zeroValue56
  i0 := by kernel_rfl
  i2 := by kernel_rfl
  i3 := by kernel_rfl
  i4 := by kernel_rfl
  i5 := by kernel_rfl
  i9 := by kernel_rfl
  i20 := by kernel_rfl
  i21 := by kernel_rfl
  i37 := by kernel_rfl
  i46 := by kernel_rfl
  i51 := by kernel_rfl
  i53 := by kernel_rfl
  i75 := by kernel_rfl
  i80 := by kernel_rfl
  i85 := by kernel_rfl
  i127 := by kernel_rfl
  i143 := by kernel_rfl
  i145 := by kernel_rfl
  i167 := by kernel_rfl
  i168 := by kernel_rfl
  i171 := by kernel_rfl
  i173 := by kernel_rfl
  i175 := by kernel_rfl
  i210 := by kernel_rfl
  i212 := by kernel_rfl
  i232 := by kernel_rfl
  i233 := by kernel_rfl
  m15 := by kernel_rfl
  m16 := by kernel_rfl
  m17 := by kernel_rfl
  m18 := by kernel_rfl
  m19 := by kernel_rfl
  c0 := by kernel_rfl
  c2 := by kernel_rfl
  c3 := by kernel_rfl
  c4 := by kernel_rfl
  c5 := by kernel_rfl
  c9 := by kernel_rfl
  c20 := by kernel_rfl
  c21 := by kernel_rfl
  c37 := by kernel_rfl
  c46 := by kernel_rfl
  c51 := by kernel_rfl
  c53 := by kernel_rfl
  c75 := by kernel_rfl
  c80 := by kernel_rfl
  c85 := by kernel_rfl
  c127 := by kernel_rfl
  c143 := by kernel_rfl
  c145 := by kernel_rfl
  c167 := by kernel_rfl
  c168 := by kernel_rfl
  c171 := by kernel_rfl
  c173 := by kernel_rfl
  c175 := by kernel_rfl
  c210 := by kernel_rfl
  c212 := by kernel_rfl
  c213 := by kernel_rfl
  c232 := by kernel_rfl
  c233 := by kernel_rfl }
def Tryd.lays219_ren : Go.Shelf.Ren := ⟨fun | 219 => 68 | 217 => 80 | 225 => 81 | 224 => 82 | 267 => 83 | 266 => 95 | 314 => 96 | n => n, fun | 9 => 9 | 3 => 3 | 4 => 4 | 5 => 5 | 46 => 116 | 146 => 129 | 51 => 125 | n => n, fun | 1 => 0 | n => n⟩
theorem Tryd.lays219 : Go.Proofs.Lays.n219 Tryd.prog Tryd.lays219_ren := {
  mixed := by kernel_rfl
  f217 := Tryd.func80.trans (congrArg some (by kernel_rfl))
  f219 := Tryd.func68.trans (congrArg some (by kernel_rfl))
  f224 := Tryd.func82.trans (congrArg some (by kernel_rfl))
  f225 := Tryd.func81.trans (congrArg some (by kernel_rfl))
  f266 := Tryd.func95.trans (congrArg some (by kernel_rfl))
  f267 := Tryd.func83.trans (congrArg some (by kernel_rfl))
  f314 := Tryd.func96.trans (congrArg some (by kernel_rfl))
  t3 := Tryd.underlying3
  a3 := Tryd.isAgg3
  z3 := Tryd.sizeOf3
  v3 := Tryd.zeroValue3
  t4 := Tryd.underlying4
  a4 := Tryd.isAgg4
  z4 := Tryd.sizeOf4
  v4 := Tryd.zeroValue4
  t5 := Tryd.underlying5
  a5 := Tryd.isAgg5
  z5 := Tryd.sizeOf5
  v5 := Tryd.zeroValue5
  t9 := Tryd.underlying9
  a9 := Tryd.isAgg9
  z9 := Tryd.sizeOf9
  v9 := Tryd.zeroValue9
  t46 := Tryd.underlying116
  a46 := Tryd.isAgg116
  z46 := Tryd.sizeOf116
  v46 := Tryd.zeroValue116
  t51 := Tryd.underlying125
  a51 := Tryd.isAgg125
  z51 := Tryd.sizeOf125
  v51 := Tryd.zeroValue125
  t146 := Tryd.underlying129
  a146 := Tryd.isAgg129
  z146 := Tryd.sizeOf129
  v146 := Tryd.zeroValue129
  g1 := by kernel_rfl }
def Tryd.lays138_ren : Go.Shelf.Ren := ⟨fun | 138 => 66 | 195 => 77 | 218 => 79 | 143 => 67 | 219 => 68 | 217 => 80 | 225 => 81 | 224 => 82 | 267 => 83 | 266 => 95 | 314 => 96 | n => n, fun | 9 => 9 | 3 => 3 | 4 => 4 | 5 => 5 | 0 => 0 | 46 => 116 | 146 => 129 | 51 => 125 | n => n, fun | 1 => 0 | n => n⟩
theorem Tryd.lays138 : Go.Proofs.Lays.n138 Tryd.prog Tryd.lays138_ren := {
  mixed := by kernel_rfl
  f138 := Tryd.func66.trans (congrArg some (by kernel_rfl))
  f143 := Tryd.func67.trans (congrArg some (by kernel_rfl))
  f195 := Tryd.func77.trans (congrArg some (by kernel_rfl))
  f217 := Tryd.func80.trans (congrArg some (by kernel_rfl))
  f218 := Tryd.func79.trans (congrArg some (by kernel_rfl))
  f219 := Tryd.func68.trans (congrArg some (by kernel_rfl))
  f224 := Tryd.func82.trans (congrArg some (by kernel_rfl))
  f225 := Tryd.func81.trans (congrArg some (by kernel_rfl))
  f266 := Tryd.func95.trans (congrArg some (by kernel_rfl))
  f267 := Tryd.func83.trans (congrArg some (by kernel_rfl))
  f314 := Tryd.func96.trans (congrArg some (by kernel_rfl))
  t0 := Tryd.underlying0
  a0 := Tryd.isAgg0
  z0 := Tryd.sizeOf0
  v0 := Tryd.zeroValue0
  t3 := Tryd.underlying3
  a3 := Tryd.isAgg3
  z3 := Tryd.sizeOf3
  v3 := Tryd.zeroValue3
  t4 := Tryd.underlying4
  a4 := Tryd.isAgg4
  z4 := Tryd.sizeOf4
  v4 := Tryd.zeroValue4
  t5 := Tryd.underlying5
  a5 := Tryd.isAgg5
  z5 := Tryd.sizeOf5
  v5 := Tryd.zeroValue5
  t9 := Tryd.underlying9
  a9 := Tryd.isAgg9
  z9 := Tryd.sizeOf9
  v9 := Tryd.zeroValue9
  t46 := Tryd.underlying116
  a46 := Tryd.isAgg116
  z46 := Tryd.sizeOf116
  v46 := Tryd.zeroValue116
  t51 := Tryd.underlying125
  a51 := Tryd.isAgg125
  z51 := Tryd.sizeOf125
  v51 := Tryd.zeroValue125
  t146 := Tryd.underlying129
  a146 := Tryd.isAgg129
  z146 := Tryd.sizeOf129
  v146 := Tryd.zeroValue129
  g1 := by kernel_rfl }
def Tryd.lays156_ren : Go.Shelf.Ren := ⟨fun | 156 => 22 | 165 => 46 | 166 => 21 | 169 => 23 | 240 => 45 | 241 => 61 | 276 => 60 | 277 => 76 | n => n, fun | 31 => 43 | 9 => 9 | 3 => 3 | 4 => 4 | 0 => 0 | 20 => 20 | 72 => 42 | 76 => 53 | 70 => 39 | 37 => 40 | 75 => 52 | 127 => 82 | 164 => 96 | 5 => 5 | 80 => 56 | n => n, fun | n => n⟩
theorem Tryd.lays156 : Go.Proofs.Lays.n156 Tryd.prog Tryd.lays156_ren := {
  mixed := by kernel_rfl
  f156 := Tryd.func22.trans (congrArg some (by kernel_rfl))
  f165 := Tryd.func46.trans (congrArg some (by kernel_rfl))
  f166 := Tryd.func21.trans (congrArg some (by kernel_rfl))
  f169 := Tryd.func23.trans (congrArg some (by kernel_rfl))
  f240 := Tryd.func45.trans (congrArg some (by kernel_rfl))
  f241 := Tryd.func61.trans (congrArg some (by kernel_rfl))
  f276 := Tryd.func60.trans (congrArg some (by kernel_rfl))
  f277 := Tryd.func76.trans (congrArg some (by kernel_rfl))
  t0 := Tryd.underlying0
  a0 := Tryd.isAgg0
  z0 := Tryd.sizeOf0
  v0 := Tryd.zeroValue0
  t3 := Tryd.underlying3
  a3 := Tryd.isAgg3
  z3 := Tryd.sizeOf3
  v3 := Tryd.zeroValue3
  t4 := Tryd.underlying4
  a4 := Tryd.isAgg4
  z4 := Tryd.sizeOf4
  v4 := Tryd.zeroValue4
  t9 := Tryd.underlying9
  a9 := Tryd.isAgg9
  z9 := Tryd.sizeOf9
  v9 := Tryd.zeroValue9
  t20 := Tryd.underlying20
  a20 := Tryd.isAgg20
  z20 := Tryd.sizeOf20
  v20 := Tryd.zeroValue20
  t31 := Tryd.underlying43
  a31 := Tryd.isAgg43
  z31 := Tryd.sizeOf43
  v31 := Tryd.zeroValue43
  t37 := Tryd.underlying40
  a37 := Tryd.isAgg40
  z37 := Tryd.sizeOf40
  v37 := Tryd.zeroValue40
  t70 := Tryd.underlying39
  a70 := Tryd.isAgg39
  z70 := Tryd.sizeOf39
  v70 := Tryd.zeroValue39
  t72 := Tryd.underlying42
  a72 := Tryd.isAgg42
  z72 := Tryd.sizeOf42
  v72 := Tryd.zeroValue42
  t75 := Tryd.underlying52
  a75 := Tryd.isAgg52
  z75 := Tryd.sizeOf52
  v75 := Tryd.zeroValue52
  t76 := Tryd.underlying53
  a76 := Tryd.isAgg53
  z76 := Tryd.sizeOf53
  v76 := Tryd.zeroValue53
  t127 := Tryd.underlying82
  a127 := Tryd.isAgg82
  z127 := Tryd.sizeOf82
  v127 := Tryd.zeroValue82
  t164 := Tryd.underlying96
  a164 := Tryd.isAgg96
  z164 := Tryd.sizeOf96
  v164 := Tryd.zeroValue96 }
def Tryd.lays169_ren : Go.Shelf.Ren := ⟨fun | 169 => 23 | n => n, fun | 70 => 39 | 9 => 9 | 0 => 0 | 72 => 42 | 37 => 40 | 127 => 82 | 3 => 3 | 5 => 5 | n => n, fun | n => n⟩
theorem Tryd.lays169 : Go.Proofs.Lays.n169 Tryd.prog Tryd.lays169_ren := {
  mixed := by kernel_rfl
  f169 := Tryd.func23.trans (congrArg some (by kernel_rfl))
  t0 := Tryd.underlying0
  a0 := Tryd.isAgg0
  z0 := Tryd.sizeOf0
  v0 := Tryd.zeroValue0
  t3 := Tryd.underlying3
  a3 := Tryd.isAgg3
  z3 := Tryd.sizeOf3
  v3 := Tryd.zeroValue3
  t9 := Tryd.underlying9
  a9 := Tryd.isAgg9
  z9 := Tryd.sizeOf9
  v9 := Tryd.zeroValue9
  t37 := Tryd.underlying40
  a37 := Tryd.isAgg40
  z37 := Tryd.sizeOf40
  v37 := Tryd.zeroValue40
  t70 := Tryd.underlying39
  a70 := Tryd.isAgg39
  z70 := Tryd.sizeOf39
  v70 := Tryd.zeroValue39
  t72 := Tryd.underlying42
  a72 := Tryd.isAgg42
  z72 := Tryd.sizeOf42
  v72 := Tryd.zeroValue42
  t127 := Tryd.underlying82
  a127 := Tryd.isAgg82
  z127 := Tryd.sizeOf82
  v127 := Tryd.zeroValue82 }
open Go.RowKit Go.Lib Go.Sort
set_option maxHeartbeats 2000000
theorem Tryd.below_grown {w : World} (k : Nat) (os : Array Obj) : Below w.heap.size w (grow (w.drewN k) os) := by
  refine ⟨rfl, rfl, rfl, ?_, fun i hi => ?_⟩
  · unfold grow World.drewN; simp
  · unfold grow World.drewN
    simp only
    rw [Array.getElem?_append_left hi]
theorem Tryd.calls_within (n lo hi : Int) (w : World) : Calls Tryd.prog 54 #[.int .i64 n, .int .i64 lo, .int .i64 hi] w fun e w' => e = .returned (.bool (decide (lo ≤ n) && decide (n ≤ hi))) ∧ w' = w := by
  go_enter Tryd.func54, Tryd.ntmps54
  go_wp2
  · go_ret
    exact ⟨by rw [decide_eq_true (by omega : lo ≤ n), Bool.true_and]; rfl, rfl⟩
  · go_ret
    exact ⟨by rw [decide_eq_false (by omega : ¬ lo ≤ n), Bool.false_and]; rfl, rfl⟩
theorem Tryd.calls_decimal (n : Int) (h0 : -9223372036854775808 ≤ n) (h1 : n ≤ 9223372036854775807) (w : World) (htab : Lib.TabIs Tryd.prog w "internal/strconv.uint64pow10" .u64 Lib.pow10Tab) :
    Calls Tryd.prog 20 #[.int .i64 n] w fun e w' => e = .returned (.string ⟨(Lib.itoa n).toArray⟩) ∧ ∃ k os, w' = grow (w.drewN k) os := by
  have hcon := Any.strconv_FormatInt_10 Tryd.laysM173 n h0 h1 w htab
  change Calls Tryd.prog 44 _ _ _ at hcon
  generalize Lib.itoa n = r at hcon ⊢
  go_enter Tryd.func20, Tryd.ntmps20
  go_wp2_with (go_at_call 44; refine hcon.mono ?_; rintro e w' ⟨rfl, k, os, rfl⟩)
  go_ret
  exact ⟨rfl, k, os, rfl⟩
theorem Tryd.calls_read_err (s : ByteArray) (lo hi z : Int) (w : World) (h : Calls Tryd.prog 53 #[.string s, .int .i64 10, .int .i64 64] w fun e w' => ∃ N, e = .returned (.tuple #[.int .i64 z, .iface 120 (.pointer (some ⟨N, 0, none⟩))]) ∧ Below w.heap.size w w') :
    Calls Tryd.prog 31 #[.string s, .int .i64 lo, .int .i64 hi] w fun e w' => e = .returned (.tuple #[.int .i64 z, .bool false]) ∧ Below w.heap.size w w' := by
  go_enter Tryd.func31, Tryd.ntmps31
  go_wp2_with (go_at_call 53; refine h.mono ?_; rintro e w1 ⟨N, rfl, hb⟩)
  go_ret2
  exact ⟨rfl, hb⟩
theorem Tryd.calls_read_ok (s : ByteArray) (lo hi v : Int) (h0 : -9223372036854775808 ≤ v) (h1 : v ≤ 9223372036854775807) (w : World) (hg : 1 < w.heap.size) (htab : Lib.TabIs Tryd.prog w "internal/strconv.uint64pow10" .u64 Lib.pow10Tab)
    (h : Calls Tryd.prog 53 #[.string s, .int .i64 10, .int .i64 64] w fun e w' => e = .returned (.tuple #[.int .i64 v, .nilIface]) ∧ Below w.heap.size w w') :
    Calls Tryd.prog 31 #[.string s, .int .i64 lo, .int .i64 hi] w fun e w' => e = .returned (.tuple #[.int .i64 v, .bool (decide ((⟨(Lib.itoa v).toArray⟩ : ByteArray).toList = s.toList) && (decide (lo ≤ v) && decide (v ≤ hi)))]) ∧ Below w.heap.size w w' := by
  have htab' : ∀ w', Below w.heap.size w w' → Lib.TabIs Tryd.prog w' "internal/strconv.uint64pow10" .u64 Lib.pow10Tab := fun w' hb => by
    unfold Lib.TabIs World.var? at *
    rw [show Tryd.prog.globalNamed "internal/strconv.uint64pow10" = some 1 by kernel_rfl] at *
    simp only [Option.bind_some] at *
    rw [hb.block 1 hg]
    exact htab
  have hd := fun w' hb => Tryd.calls_decimal v h0 h1 w' (htab' w' hb)
  clear htab htab'
  have hw := fun w' => Tryd.calls_within v lo hi w'
  generalize (Lib.itoa v).toArray = r at *
  go_enter Tryd.func31, Tryd.ntmps31
  go_wp2_with (first | (go_at_call 53; refine h.mono ?_; rintro e w1 ⟨rfl, hb⟩) | (go_at_call 20; refine (hd _ hb).mono ?_; rintro e w2 ⟨rfl, k, os, rfl⟩) | (go_at_call 54; refine (hw _).mono ?_; rintro e w3 ⟨rfl, rfl⟩))
  · rename_i hh
    go_ret2
    exact ⟨by rw [decide_eq_true hh, Bool.true_and]; rfl, hb.trans ((Tryd.below_grown k os).mono hb.size)⟩
  · rename_i hh
    go_ret2
    exact ⟨by rw [decide_eq_false hh, Bool.false_and]; rfl, hb.trans ((Tryd.below_grown k os).mono hb.size)⟩
theorem Tryd.heap_var {w : World} {n : String} {g : Nat} {cs : Array Value} (hg : Tryd.prog.globalNamed n = some g) {t : TypeId} {fr : Nat × Nat} (h : w.heap[g]? = some (.cells cs t fr)) : w.var? Tryd.prog n = some cs := by
  unfold World.var?
  rw [hg, Option.bind_some, h]
theorem Tryd.calls_read (s : ByteArray) (lo hi : Int) (w : World) (hs : s.size ≤ 281474976710656)
    (h1 : ∃ t fr, w.heap[1]? = some (.cells ((List.range 20).map fun i => Value.int .u64 ((10 ^ i : Nat) : Int)).toArray t fr))
    (h2 : ∃ t p a fr, w.heap[2]? = some (.cells #[.iface t p] a fr)) (h3 : ∃ t p a fr, w.heap[3]? = some (.cells #[.iface t p] a fr)) :
    Calls Tryd.prog 31 #[.string s, .int .i64 lo, .int .i64 hi] w fun e w' => Below w.heap.size w w' ∧ match Lib.parseIntB 64 s.data.toList with
      | .ok v => e = .returned (.tuple #[.int .i64 v, .bool (decide ((⟨(Lib.itoa v).toArray⟩ : ByteArray).toList = s.toList) && (decide (lo ≤ v) && decide (v ≤ hi)))])
      | .range => e = .returned (.tuple #[.int .i64 (Lib.intSat 64 s.data.toList), .bool false])
      | _ => e = .returned (.tuple #[.int .i64 0, .bool false]) := by
  have hlt : ∀ {g : Nat} {o : Obj}, w.heap[g]? = some o → g < w.heap.size := fun h => (Array.getElem?_eq_some_iff.1 h).1
  have cell : ∀ {g : Nat} {v : Value} {a : TypeId} {fr : Nat × Nat}, w.heap[g]? = some (.cells #[v] a fr) → w.cell? ⟨g, 0, none⟩ = some v := fun h => by
    rw [Lib.cell_of_heap h]
    rfl
  cases hp : Lib.parseIntB 64 s.data.toList with
  | ok v =>
    obtain ⟨t, fr, h1⟩ := h1
    have hb : -9223372036854775808 ≤ v ∧ v ≤ 9223372036854775807 := by
      have := Lib.parseIntB_bounds hp
      simp only [show ((2 ^ (64 - 1) : Nat) : Int) = 9223372036854775808 from by decide] at this
      omega
    have C := Any.strconv_ParseInt_10_at64_ok Tryd.laysC174 s (by omega) v hp w
    change Calls Tryd.prog 53 _ _ _ at C
    refine (Tryd.calls_read_ok s lo hi v hb.1 hb.2 w (hlt h1) (Tryd.heap_var (by kernel_rfl) h1) (C.mono fun e w' ⟨he, hw⟩ => ⟨he, ?_⟩)).mono fun e w' ⟨he, hw⟩ => ⟨hw, he⟩
    rcases hw with rfl | ⟨t, rfl⟩
    · exact Below.refl _ _
    · exact Lib.bytesWorld_below _ _ _
  | range =>
    obtain ⟨t, p, a, fr, h3⟩ := h3
    have C := Any.strconv_ParseInt_10_at64_range Tryd.laysC174 s hs hp (.iface t p) w (cell h3) (.inr ⟨_, _, rfl⟩)
    change Calls Tryd.prog 53 _ _ _ at C
    exact (Tryd.calls_read_err s lo hi (Lib.intSat 64 s.data.toList) w (C.mono fun e w' ⟨N, he, _, _, hw⟩ => ⟨N, he, hw⟩)).mono fun e w' ⟨he, hw⟩ => ⟨hw, he⟩
  | _ =>
    obtain ⟨t, p, a, fr, h2⟩ := h2
    have C := Any.strconv_ParseInt_10_at64_syntax Tryd.laysC174 s hs hp (.iface t p) w (cell h2) (.inr ⟨_, _, rfl⟩)
    change Calls Tryd.prog 53 _ _ _ at C
    exact (Tryd.calls_read_err s lo hi 0 w (C.mono fun e w' ⟨N, he, _, _, hw⟩ => ⟨N, he, hw⟩)).mono fun e w' ⟨he, hw⟩ => ⟨hw, he⟩
set_option linter.unusedVariables false
set_option linter.unusedSimpArgs false
theorem Tryd.extra : Builder.Extra Tryd.prog Tryd.lays156_ren := {
  sizeBuilder := by kernel_rfl
  liesBuilder := by kernel_rfl
  t5 := Tryd.underlying5
  a5 := Tryd.isAgg5
  z5 := Tryd.sizeOf5
  v5 := Tryd.zeroValue5
  infoByte := by kernel_rfl
  cellsByte := by kernel_rfl
  sizeByte := by kernel_rfl
  neB5 := by decide }
theorem Tryd.lays166x : Go.Proofs.Lays.n166 Tryd.prog Tryd.lays156_ren := { Tryd.lays156 with }
theorem Tryd.lays169x : Go.Proofs.Lays.n169 Tryd.prog Tryd.lays156_ren := { Tryd.lays169 with }
theorem Tryd.write (B b : Nat) (bs : List Value) (s : ByteArray) (w : World) (h : Lib.IsBuilderF 42 5 B b bs w) (hlen : bs.length + s.size ≤ 140737488355328) (hBw : B ≤ w.heap.size) :
    Calls Tryd.prog 21 #[.pointer (some ⟨b, 0, none⟩), .string s] w fun e w' => e = .returned (.tuple #[.int .i64 s.size, .nilIface]) ∧ (Lib.BuilderAtF 42 5 B b (.pointer (some ⟨b, 0, none⟩)) (bs ++ Lib.strCells s) w' ∧ Below B w w') :=
  (Any.Builder_WriteString_k Tryd.lays166x Tryd.extra B b bs s w h hlen hBw).mono fun e w' ⟨h1, h2, h3, _⟩ => ⟨h1, h2, h3⟩
theorem Tryd.joinc (bk o c : Nat) (xs : List ByteArray) (sep : ByteArray) (w : World) (hcells : ∀ (j : Nat) x, xs[j]? = some x → w.cell? ⟨bk, o + j, none⟩ = some (.string x)) (hbk : bk < w.heap.size) (hN : xs.length ≤ 140737488355328) (hcap : xs.length ≤ c) (hlen : (Lib.join (xs.map (·.data.toList)) sep.data.toList).length ≤ 140737488355328) :
    Calls Tryd.prog 22 #[.slice (some ⟨bk, o, none⟩) xs.length c, .string sep] w fun e w' => e = .returned (.string ⟨(Lib.join (xs.map (·.data.toList)) sep.data.toList).toArray⟩) ∧ Below w.heap.size w w' := Any.strings_Join Tryd.lays156 Tryd.extra bk o c xs sep w hcells hbk hN hcap hlen
set_option maxHeartbeats 8000000
set_option maxRecDepth 100000
theorem Tryd.str (B b : Nat) (l : List UInt8) (w : World) (h : Lib.IsBuilderF 42 5 B b (Lib.byteCells l) w) (hBw : B ≤ w.heap.size) :
    Calls Tryd.prog 23 #[.pointer (some ⟨b, 0, none⟩)] w fun e w' => e = .returned (.string ⟨l.toArray⟩) ∧ Below B w w' :=
  (Any.Builder_String_any_k Tryd.lays169x Tryd.extra B b l w h hBw).mono fun e w' ⟨h1, _, h3, _⟩ => ⟨h1, h3⟩
theorem builder_below {T e : TypeId} {B b : Nat} {bs : List Value} {w w' : World} (h : IsBuilderF T e B b bs w) (hb : Below w.heap.size w w') : IsBuilderF T e B b bs w' := by
  have key : ∀ p, BuilderAtF T e B b p bs w → BuilderAtF T e B b p bs w' := fun p ⟨h1, v, h2, h3, h4⟩ => by
    have hlt : ∀ {g : Nat} {o : Obj}, w.heap[g]? = some o → w'.heap[g]? = some o := fun {g o} q => (hb.block g (Array.getElem?_eq_some_iff.1 q).1).trans q
    refine ⟨h1, v, hlt h2, ⟨h3.1, ?_⟩, h4⟩
    rcases h3.2 with q | ⟨g, cap, cur, fz, q1, q2, q3, q4⟩
    · exact .inl q
    · exact .inr ⟨g, cap, cur, fz, q1, q2, hlt q3, q4⟩
  exact h.imp (key _) (key _)
abbrev StT := (Int × Int) × Int
def aggT (x : Int × Int) : Value := .agg #[.int .u8 x.1, .int .i16 x.2]
def RowT (w : World) (A : Option Addr) (l : List StT) : Prop := 0 < l.length → ∃ b o, A = some ⟨b, o, none⟩ ∧ b < w.heap.size ∧
  ∀ i (h : i < l.length), w.cell? ⟨b, o + i * 3, none⟩ = some (.int .u8 l[i].1.1) ∧ w.cell? ⟨b, o + i * 3 + 1, none⟩ = some (.int .i16 l[i].1.2) ∧ w.cell? ⟨b, o + i * 3 + 2, none⟩ = some (.int .i16 l[i].2)
def RackT (w : World) (A : Option Addr) (r : List (List StT)) : Prop := 0 < r.length → ∃ b o, A = some ⟨b, o, none⟩ ∧ b < w.heap.size ∧
  ∀ i (h : i < r.length), ∃ A' c', w.cell? ⟨b, o + i, none⟩ = some (.slice A' r[i].length c') ∧ RowT w A' r[i]
def wordT (bt : Int × Int → ByteArray) (dc : Int → ByteArray) (s : StT) : ByteArray := bt s.1 ++ ⟨#[64]⟩ ++ dc s.2
def laneT (bt : Int × Int → ByteArray) (dc : Int → ByteArray) (l : List StT) : List UInt8 := Lib.join (l.map fun s => (wordT bt dc s).data.toList) [32] ++ [10]
def rackT (bt : Int × Int → ByteArray) (dc : Int → ByteArray) (r : List (List StT)) : List UInt8 := r.flatMap (laneT bt dc)
theorem own_below {w w' : World} {base : Nat} {e : TypeId} {size n : Nat} {v : Value} {xs : List Value} (h : w.ownsRow base e size v n xs) (hb : Below w.heap.size w w') : w'.ownsRow base e size v n xs := by
  refine ⟨h.1, ?_⟩
  rcases h.2 with q | ⟨g, cap, cur, q1, q2, q3, q4⟩
  · exact .inl q
  · exact .inr ⟨g, cap, cur, q1, q2, (hb.block g (Array.getElem?_eq_some_iff.1 q3).1).trans q3, q4⟩
theorem heap_alloc_size' (w : World) (o : Obj) : (w.alloc o).heap.size = w.heap.size + 1 := by simp
theorem Tryd.join_own (base : Nat) (v : Value) (ws : List ByteArray) (w : World) (hown : w.ownsRow base 9 1 v ws.length (ws.map Value.string)) (sep : ByteArray) (hN : ws.length ≤ 140737488355328) (hlen : (Lib.join (ws.map (·.data.toList)) sep.data.toList).length ≤ 140737488355328) :
    Calls Tryd.prog 22 #[v, .string sep] w fun e w' => e = .returned (.string ⟨(Lib.join (ws.map (·.data.toList)) sep.data.toList).toArray⟩) ∧ Below w.heap.size w w' := by
  rcases hown.2 with ⟨rfl, q⟩ | ⟨g, cap, cur, rfl, q2, q3, q4, _⟩
  · obtain rfl := List.eq_nil_of_length_eq_zero q
    refine (Any.strings_Join_none Tryd.lays156 Tryd.extra none 0 sep w).mono fun e w' ⟨h1, h2⟩ => ⟨h1, h2 ▸ Below.refl _ _⟩
  · refine Tryd.joinc g 0 cap ws sep w (fun j x hx => ?_) (Array.getElem?_eq_some_iff.1 q3).1 hN q4 hlen
    have := (World.ownsRowF_of hown).cells (g := g) rfl j (.string x) (by rw [List.getElem?_map, hx]; rfl)
    rw [show (⟨g, 0 + j, none⟩ : Addr) = (⟨g, 0, none⟩ : Addr).add j from by unfold Addr.add; simp]
    exact this
theorem sum_le {α : Type} (f : α → Nat) (m : Nat) : ∀ l : List α, (∀ x, x ∈ l → f x ≤ m) → (l.map f).sum ≤ l.length * m
  | [], _ => by simp
  | x :: l, h => by
    have h1 := h x (by simp)
    have h2 := sum_le f m l (fun y hy => h y (List.mem_cons_of_mem _ hy))
    simp only [List.map_cons, List.sum_cons, List.length_cons, Nat.add_mul]
    omega
theorem joinTail_le (sep : List UInt8) : ∀ l : List (List UInt8), (Lib.joinTail sep l).length = (l.map fun x => sep.length + x.length).sum
  | [] => rfl
  | x :: l => by
    have := joinTail_le sep l
    unfold Lib.joinTail at this ⊢
    simp only [List.map_cons, List.flatten_cons, List.length_append, List.sum_cons, this]
theorem laneT_le (bt : Int × Int → ByteArray) (dc : Int → ByteArray) (l : List StT) (h : l.length ≤ 6) (hs : ∀ s, s ∈ l → (wordT bt dc s).size ≤ 1000) : (laneT bt dc l).length ≤ 6007 := by
  unfold laneT
  rw [List.length_append]
  cases l with
  | nil => simp [Lib.join_nil]
  | cons x l =>
    rw [List.map_cons, Lib.join_cons, List.length_append, joinTail_le, List.map_map]
    have h1 : (wordT bt dc x).data.toList.length ≤ 1000 := by have := hs x (by simp); simpa using this
    have h2 := sum_le ((fun y : List UInt8 => [(32 : UInt8)].length + y.length) ∘ fun s => (wordT bt dc s).data.toList) 1001 l (fun y hy => by
      have := hs y (List.mem_cons_of_mem _ hy)
      have e : (wordT bt dc y).data.toList.length = (wordT bt dc y).size := by simp
      simp only [Function.comp_def, e, List.length_singleton]
      omega)
    simp only [List.length_cons] at h
    have h3 : l.length * 1001 ≤ 5 * 1001 := Nat.mul_le_mul_right _ (by omega)
    simp only [List.length_singleton] at h2 ⊢
    omega
theorem rackT_le (bt : Int × Int → ByteArray) (dc : Int → ByteArray) (r : List (List StT)) (h : r.length ≤ 8) (hl2 : ∀ l, l ∈ r → l.length ≤ 6) (hs : ∀ l, l ∈ r → ∀ s, s ∈ l → (wordT bt dc s).size ≤ 1000) : (rackT bt dc r).length ≤ 48056 := by
  unfold rackT
  rw [List.length_flatMap]
  have := sum_le (fun l => (laneT bt dc l).length) 6007 r (fun l hl => laneT_le bt dc l (hl2 l hl) (hs l hl))
  have h3 : r.length * 6007 ≤ 8 * 6007 := Nat.mul_le_mul_right _ h
  omega
theorem Tryd.info9 : (Tryd.prog.info? 9).map (fun i => (i.zero, i.size, i.bytes)) = some (some (.string ⟨#[]⟩), 1, 16) := by kernel_rfl
theorem Tryd.rt_false (A : Option Addr) (c n : Nat) (w : World)
    (hV : Calls Tryd.prog 18 #[.slice A n c] w fun e w'' => e = .returned (.bool false) ∧ Below w.heap.size w w'') :
    Calls Tryd.prog 8 #[.slice A n c] w fun e w' => Below w.heap.size w w' ∧ e = .returned (.string ⟨#[]⟩) := by
  go_enter Tryd.func8, Tryd.ntmps8
  go_wp2_with (go_at_call 18; refine hV.mono ?_; rintro e w1 ⟨rfl, hb1⟩)
  go_ret
  exact ⟨hb1, rfl⟩
theorem Tryd.rt_true (A : Option Addr) (c : Nat) (r : List (List StT)) (w : World) (bt : Int × Int → ByteArray) (dc : Int → ByteArray) (hr : RackT w A r)
    (hl : r.length ≤ 8) (hl2 : ∀ l, l ∈ r → l.length ≤ 6) (hsz : ∀ l, l ∈ r → ∀ s, s ∈ l → (wordT bt dc s).size ≤ 1000)
    (hV : Calls Tryd.prog 18 #[.slice A r.length c] w fun e w'' => e = .returned (.bool true) ∧ Below w.heap.size w w'')
    (hB : ∀ l, l ∈ r → ∀ s, s ∈ l → ∀ w', Below w.heap.size w w' → Calls Tryd.prog 19 #[aggT s.1] w' fun e w'' => e = .returned (.string (bt s.1)) ∧ Below w'.heap.size w' w'')
    (hD : ∀ l, l ∈ r → ∀ s, s ∈ l → ∀ w', Below w.heap.size w w' → Calls Tryd.prog 20 #[.int .i64 s.2] w' fun e w'' => e = .returned (.string (dc s.2)) ∧ Below w'.heap.size w' w'')
    (hw : ∀ l, l ∈ r → ∀ s, s ∈ l → -32768 ≤ s.2 ∧ s.2 ≤ 32767) :
    Calls Tryd.prog 8 #[.slice A r.length c] w fun e w' => Below w.heap.size w w' ∧ e = .returned (.string ⟨(rackT bt dc r).toArray⟩) := by
  go_enter Tryd.func8, Tryd.ntmps8
  go_wp2_with (go_at_call 18; refine hV.mono ?_; rintro e w1 ⟨rfl, hb1⟩)
  have h0 : IsBuilderF 42 5 w1.heap.size w1.heap.size (byteCells (rackT bt dc (r.take 0))) (w1.alloc (.cells #[.pointer none, .slice none 0 0] 42)) := IsBuilderF.of (fresh_isBuilder 42 5 w1)
  have b0 : Below w1.heap.size w1 (w1.alloc (.cells #[.pointer none, .slice none 0 0] 42)) := (Below.refl _ w1).alloc (Nat.le_refl _) _
  generalize hW : w1.alloc (.cells #[.pointer none, .slice none 0 0] 42) = W at *
  go_loopw [16] (fun i wr => ∃ k : Nat, k ≤ r.length ∧ i = .int .i64 k ∧ IsBuilderF 42 5 w1.heap.size w1.heap.size (byteCells (rackT bt dc (r.take k))) wr ∧ Below w1.heap.size w1 wr)
    (fun i _ => r.length - (Go.RowKit.intOf i).toNat)
  case atStart => exact ⟨0, Nat.zero_le _, rfl, h0, b0⟩
  case round =>
    obtain ⟨k, hk, rfl, hbd, hx⟩ := hrel
    by_cases hlt : k < r.length
    · obtain ⟨b, o, rfl, hbl, hcl⟩ := hr (by omega)
      obtain ⟨A', c', e1, hrow⟩ := hcl k hlt
      have f1 : wr.cell? ⟨b, o + k, none⟩ = some (.slice A' r[k].length c') := (Below.cell (hb1.trans (hx.mono hb1.size)) (p := ⟨b, o + k, none⟩) hbl).trans e1
      go_wp2
      obtain ⟨wo, rfl⟩ : ∃ wo, wo = wr := ⟨wr, rfl⟩
      have hwr : w1.heap.size ≤ wo.heap.size := hx.size
      have own0 : (wo.alloc (.cells #[] 9)).ownsRow wo.heap.size 9 1 (.slice (some ⟨wo.heap.size, 0, none⟩) 0 0) 0 ((r[k].take 0).map fun s => Value.string (wordT bt dc s)) := by
        refine ⟨rfl, .inr ⟨wo.heap.size, 0, #[], rfl, Nat.le_refl _, by show (wo.heap.push _)[wo.heap.size]? = _; simp, by simp, by unfold maxLen; omega, rfl, rfl⟩⟩
      have bi0 : Below wo.heap.size wo (wo.alloc (.cells #[] 9)) := (Below.refl _ wo).alloc (Nat.le_refl _) _
      generalize hWi : wo.alloc (.cells #[] 9) = Wi at *
      go_loopw [6, 23] (fun v i wi => ∃ j : Nat, j ≤ r[k].length ∧ i = .int .i64 j ∧ wi.ownsRow wo.heap.size 9 1 v j ((r[k].take j).map fun s => Value.string (wordT bt dc s)) ∧ Below wo.heap.size wo wi)
        (fun v i _ => r[k].length - (Go.RowKit.intOf i).toNat)
      case atStart => exact ⟨0, Nat.zero_le _, rfl, own0, bi0⟩
      case round =>
        obtain ⟨j, hj, rfl, hown, hxi⟩ := hrel
        by_cases hltj : j < r[k].length
        · obtain ⟨b2, o2, rfl, hbl2, hcl2⟩ := hrow (by omega)
          obtain ⟨g1, g2, g3⟩ := hcl2 j hltj
          have hbw : Go.RowKit.Below w.heap.size w wr := (hb1.trans (hx.mono hb1.size)).trans (hxi.mono (Nat.le_trans hb1.size hwr))
          have tr : ∀ q, wr.cell? ⟨b2, q, none⟩ = w.cell? ⟨b2, q, none⟩ := fun q => Below.cell hbw (p := ⟨b2, q, none⟩) hbl2
          have q1 := (tr _).trans g1
          have q2 := (tr _).trans g2
          have q3 := (tr _).trans g3
          have hlm : r[k] ∈ r := List.getElem_mem hlt
          have hsm : r[k][j] ∈ r[k] := List.getElem_mem hltj
          have hl6 := hl2 _ hlm
          have hne6 : some wr.heap.size ≠ u6.ownBlock := fun e => absurd (hown.lt _ e.symm).2 (by omega)
          obtain ⟨X, hX⟩ : ∃ X, X = wr.alloc (.cells #[.int .u8 r[k][j].1.1, .int .i16 r[k][j].1.2, .int .i16 r[k][j].2] 48) := ⟨_, rfl⟩
          have hXh : X.heap[wr.heap.size]? = some (.cells #[.int .u8 r[k][j].1.1, .int .i16 r[k][j].1.2, .int .i16 r[k][j].2] 48 (0, 0)) := by
            rw [hX]
            show (wr.heap.push _)[wr.heap.size]? = _
            simp
          have p1 : X.cell? ⟨wr.heap.size, 0, none⟩ = some (.int .u8 r[k][j].1.1) := by rw [Lib.cell_of_heap hXh]; rfl
          have p2 : X.cell? ⟨wr.heap.size, 1, none⟩ = some (.int .i16 r[k][j].1.2) := by rw [Lib.cell_of_heap hXh]; rfl
          have p3 : X.cell? ⟨wr.heap.size, 2, none⟩ = some (.int .i16 r[k][j].2) := by rw [Lib.cell_of_heap hXh]; rfl
          have hXs : X.heap.size = wr.heap.size + 1 := by rw [hX]; simp
          have bX : Go.RowKit.Below wr.heap.size wr X := by rw [hX]; exact (Below.refl _ wr).alloc (Nat.le_refl _) _
          have ownX : X.ownsRow wo.heap.size 9 1 u6 j ((r[k].take j).map fun s => Value.string (wordT bt dc s)) := by rw [hX]; exact hown.alloc _
          have hBX : Go.RowKit.Below w.heap.size w X.drew := (hbw.trans (bX.mono hbw.size)).drew
          have hday := hw _ hlm _ hsm
          have hsz0 : (bt r[k][j].1).size + 1 + (dc r[k][j].2).size ≤ 1000 := by
            have := hsz _ hlm _ hsm
            unfold wordT at this
            simp only [ByteArray.size_append] at this
            exact this
          have hwrap : IntKind.i64.wrap r[k][j].2 = r[k][j].2 := IntWalk.i64_in _ ⟨by omega, by omega⟩
          have hz1 : ¬ 9223372036854775807 < (bt r[k][j].1).size + 1 := by omega
          have hz2 : ¬ 9223372036854775807 < (bt r[k][j].1).size + 1 + (dc r[k][j].2).size := by omega
          have hXlt : wr.heap.size < X.drew.heap.size := by show wr.heap.size < X.heap.size; omega
          go_wp2
          rw [← hX]
          clear hX
          obtain ⟨i0, hi, hz0, hz1, hz2⟩ := info_parts Tryd.info9
          go_region_held3 (fun w' => w'.cell? ⟨wr.heap.size, 0, none⟩ = some (.int .u8 r[k][j].1.1) ∧ w'.cell? ⟨wr.heap.size, 1, none⟩ = some (.int .i16 r[k][j].1.2) ∧ w'.cell? ⟨wr.heap.size, 2, none⟩ = some (.int .i16 r[k][j].2))
            (first
              | go_keep
              | (go_split_ands
                 refine ⟨?_, ?_, ?_⟩ <;> (first | (rw [hgrow.cell_far _ (Nat.lt_of_lt_of_le (Nat.lt_of_lt_of_le hXlt (Nat.le_trans hb5.size hb6.size)) (by simp)) hne6]; assumption) | (rw [Below.cell hb6 (Nat.lt_of_lt_of_le hXlt hb5.size)]; assumption) | (rw [Below.cell hb5 hXlt]; assumption))))
            (first
              | (go_at_call 19; refine (hB _ hlm _ hsm _ hBX).mono ?_; rintro e w5 ⟨rfl, hb5⟩)
              | (go_at_call 20; refine (hD _ hlm _ hsm _ (hBX.trans (hb5.mono hBX.size))).mono ?_; rintro e w6 ⟨rfl, hb6⟩)
              | ((refine step_append_lies _ (by rfl) _ _ _ (by rfl) wo.heap.size 9 i0 _ 1 16 Tryd.underlying43 hi hz0 hz1 hz2 rfl (by omega) u6 j _ (by rfl) ((own_below (own_below ownX.drew hb5) hb6).alloc _) ⟨w6.heap.size, 0, none⟩ 1 1 [.string (wordT bt dc r[k][j])] (by rfl) (by rfl) (World.news_of_block (cs := #[.string (wordT bt dc r[k][j])]) (t := 9) (fr := (0, 0)) (heap_alloc_new w6 _)) (by simp [Value.oneCell']) (by omega) (by unfold maxLen; omega) (by omega) (by have := hb5.size; have := hb6.size; have := hxi.size; simp only [heap_alloc_size']; omega) (w6.heap.size + 1) (by simp) ?_; intro gg cap w7 hown7 hgrow hat hlt7)))
          go_wp2
          go_roundw
          case rel =>
            refine ⟨j + 1, by omega, by go_num, ?_, ?_⟩
            · rw [List.take_succ_eq_append_getElem hltj, List.map_append]
              exact hown7
            · have c1 := hxi.trans (bX.mono hxi.size)
              have c2 : Go.RowKit.Below wo.heap.size wo X.drew := c1.drew
              have c3 := c2.trans (hb5.mono c2.size)
              have c4 := c3.trans (hb6.mono c3.size)
              exact (c4.alloc c4.size _).grown hgrow (Nat.le_trans c4.size (by simp)) (fun q hq => (hown.lt q hq).1)
          case measure => simp [Go.RowKit.intOf]; omega
        · have hj2 : j = r[k].length := by omega
          subst hj2
          rw [List.take_length] at hown
          have hlm : r[k] ∈ r := List.getElem_mem hlt
          have hlen := laneT_le bt dc r[k] (hl2 _ hlm) (hsz _ hlm)
          have hrl := rackT_le bt dc (r.take k) (by rw [List.length_take]; omega) (fun l h => hl2 l (List.mem_of_mem_take h)) (fun l h => hsz l (List.mem_of_mem_take h))
          have ejs : ((r[k].map (wordT bt dc)).map (·.data.toList)) = r[k].map fun s => (wordT bt dc s).data.toList := by rw [List.map_map]; rfl
          have hjl : (Lib.join ((r[k].map (wordT bt dc)).map (·.data.toList)) (⟨#[32]⟩ : ByteArray).data.toList).length ≤ 6006 := by
            rw [ejs]
            unfold laneT at hlen
            rw [List.length_append] at hlen
            simp only [List.length_singleton] at hlen
            exact Nat.le_of_succ_le_succ hlen
          have cJ := Tryd.join_own wo.heap.size u6 (r[k].map (wordT bt dc)) wr (by rw [List.length_map, List.map_map]; exact hown) ⟨#[32]⟩ (by rw [List.length_map]; have := hl2 _ hlm; omega) (by omega)
          have hdone : laneT bt dc r[k] = Lib.join ((r[k].map (wordT bt dc)).map (·.data.toList)) (⟨#[32]⟩ : ByteArray).data.toList ++ [10] := by rw [ejs]; rfl
          generalize hJ : Lib.join ((r[k].map (wordT bt dc)).map (·.data.toList)) (⟨#[32]⟩ : ByteArray).data.toList = J at *
          have hJs : ByteArray.size ⟨J.toArray⟩ = J.length := by show J.toArray.size = _; simp
          have hz3 : ¬ 9223372036854775807 < J.length + 1 := by omega
          have hbd2 := builder_below hbd hxi
          have hzs : ByteArray.size (⟨J.toArray⟩ ++ ⟨#[10]⟩) = J.length + 1 := by rw [ByteArray.size_append, hJs]; rfl
          have hfin : byteCells (rackT bt dc (r.take k)) ++ Lib.strCells (⟨J.toArray⟩ ++ ⟨#[10]⟩) = byteCells (rackT bt dc (r.take (k + 1))) := by
            rw [Lib.strCells_eq, ← Lib.byteCells_append, List.take_succ_eq_append_getElem hlt]
            unfold rackT
            rw [List.flatMap_append, List.flatMap_singleton, hdone]
            simp
          go_wp2_with (first
            | (go_at_call 22; refine cJ.mono ?_; rintro e w8 ⟨rfl, hb8⟩)
            | (go_at_call 21; refine (Tryd.write w1.heap.size w1.heap.size _ _ w8 (builder_below hbd2 hb8) (by rw [Lib.byteCells_length, hzs]; omega) (Nat.le_trans hwr (Nat.le_trans hxi.size hb8.size))).mono ?_; rintro e w9 ⟨rfl, hb9, hx9⟩))
          go_roundw
          case rel =>
            refine ⟨k + 1, by omega, by go_num, ?_, ?_⟩
            · rw [← hfin]
              exact .inr hb9
            · exact (hx.trans (hxi.mono hwr)).trans ((hb8.mono (Nat.le_trans hwr hxi.size)).trans hx9)
          case measure => simp [Go.RowKit.intOf]; omega
    · have hk2 : k = r.length := by omega
      subst hk2
      rw [List.take_length] at hbd
      go_wp2_with (go_at_call 23; refine (Tryd.str w1.heap.size w1.heap.size _ wr hbd hx.size).mono ?_; rintro e w9 ⟨rfl, hx9⟩)
      go_ret
      exact ⟨(hb1.trans (hx.mono hb1.size)).trans (hx9.mono hb1.size), rfl⟩
end Go.Proofs
