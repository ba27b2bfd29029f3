/-
  Ya
-/
import Derived.Shelf.Strconv.Itoa3
import Derived.Shelf.Strconv.AtoiAll
import Derived.Lib.SmallJoins
import Derived.Sort.OwnSortedInts
import Derived.Shelf.SortM.Plain
import Derived.Shelf.SortM.SortNone
import Derived.Ground.SlgmProg
import Derived.Test.YtlhepanmdchjoaaGreatDoorRows
import Derived.Test.YtlhepanmdchjoaaGreatDoorPkDk
import Derived.Test.YtlhepanmdchjoaaGreatDoorPkXa
/-
  Layer 7: names, numbers, the segments of a disk.
-/
namespace Go.Proofs.YtlhepanmdchjoaaGreatDoor
attribute [local irreducible] St1 RL RA RT RT1 Run
attribute [local irreducible] crcN crcL crcS crcB numL leL unfR
section
open Go.Shelf
def itoaL_ren : Go.Shelf.Ren := ⟨fun | 171 => 79 | 243 => 98 | 246 => 115 | 283 => 144 | 284 => 145 | 285 => 146 | 286 => 147 | 129 => 132 | 317 => 161 | 318 => 162 | 319 => 163 | 320 => 164 | 337 => 169 | 338 => 170 | n => n, fun | 3 => 3 | 9 => 9 | 2 => 2 | 4 => 4 | 171 => 181 | 0 => 0 | 53 => 142 | 37 => 32 | 5 => 5 | 173 => 183 | 212 => 202 | 51 => 141 | 20 => 20 | 213 => 203 | 46 => 23 | 232 => 213 | 233 => 214 | n => n, fun | 17 => 2 | 18 => 3 | 19 => 4 | n => n⟩
theorem itoaL : Go.Proofs.LaysM.n171 Tryz.prog itoaL_ren := {
 mixed := by kernel_rfl
 f129 := Tryz.func132.trans (congrArg some (by kernel_rfl))
 f171 := Tryz.func79.trans (congrArg some (by kernel_rfl))
 f243 := Tryz.func98.trans (congrArg some (by kernel_rfl))
 f246 := Tryz.func115.trans (congrArg some (by kernel_rfl))
 f283 := Tryz.func144.trans (congrArg some (by kernel_rfl))
 f284 := Tryz.func145.trans (congrArg some (by kernel_rfl))
 f285 := Tryz.func146.trans (congrArg some (by kernel_rfl))
 f286 := Tryz.func147.trans (congrArg some (by kernel_rfl))
 f317 := Tryz.func161.trans (congrArg some (by kernel_rfl))
 f318 := Tryz.func162.trans (congrArg some (by kernel_rfl))
 f319 := Tryz.func163.trans (congrArg some (by kernel_rfl))
 f320 := Tryz.func164.trans (congrArg some (by kernel_rfl))
 f337 := Tryz.func169.trans (congrArg some (by kernel_rfl))
 f338 := Tryz.func170.trans (congrArg some (by kernel_rfl))
 t0 := Tryz.underlying0
 a0 := Tryz.isAgg0
 z0 := Tryz.sizeOf0
 v0 := Tryz.zeroValue0
 t2 := Tryz.underlying2
 a2 := Tryz.isAgg2
 z2 := Tryz.sizeOf2
 v2 := Tryz.zeroValue2
 t3 := Tryz.underlying3
 a3 := Tryz.isAgg3
 z3 := Tryz.sizeOf3
 v3 := Tryz.zeroValue3
 t4 := Tryz.underlying4
 a4 := Tryz.isAgg4
 z4 := Tryz.sizeOf4
 v4 := Tryz.zeroValue4
 t5 := Tryz.underlying5
 a5 := Tryz.isAgg5
 z5 := Tryz.sizeOf5
 v5 := Tryz.zeroValue5
 t9 := Tryz.underlying9
 a9 := Tryz.isAgg9
 z9 := Tryz.sizeOf9
 v9 := Tryz.zeroValue9
 t20 := Tryz.underlying20
 a20 := Tryz.isAgg20
 z20 := Tryz.sizeOf20
 v20 := Tryz.zeroValue20
 t37 := Tryz.underlying32
 a37 := Tryz.isAgg32
 z37 := Tryz.sizeOf32
 v37 := Tryz.zeroValue32
 t46 := Tryz.underlying23
 a46 := Tryz.isAgg23
 z46 := Tryz.sizeOf23
 v46 := Tryz.zeroValue23
 t51 := Tryz.underlying141
 a51 := Tryz.isAgg141
 z51 := Tryz.sizeOf141
 v51 := Tryz.zeroValue141
 t53 := Tryz.underlying142
 a53 := Tryz.isAgg142
 z53 := Tryz.sizeOf142
 v53 := Tryz.zeroValue142
 t171 := Tryz.underlying181
 a171 := Tryz.isAgg181
 z171 := Tryz.sizeOf181
 v171 := Tryz.zeroValue181
 t173 := Tryz.underlying183
 a173 := Tryz.isAgg183
 z173 := Tryz.sizeOf183
 v173 := Tryz.zeroValue183
 t212 := Tryz.underlying202
 a212 := Tryz.isAgg202
 z212 := Tryz.sizeOf202
 v212 := Tryz.zeroValue202
 t213 := Tryz.underlying203
 a213 := Tryz.isAgg203
 z213 := Tryz.sizeOf203
 t232 := Tryz.underlying213
 a232 := Tryz.isAgg213
 z232 := Tryz.sizeOf213
 v232 := Tryz.zeroValue213
 t233 := Tryz.underlying214
 a233 := Tryz.isAgg214
 z233 := Tryz.sizeOf214
 v233 := Tryz.zeroValue214
 g17 := by kernel_rfl
 g18 := by kernel_rfl
 g19 := by kernel_rfl
 i0 := by kernel_rfl
 i2 := by kernel_rfl
 i3 := by kernel_rfl
 i4 := by kernel_rfl
 i5 := by kernel_rfl
 i9 := by kernel_rfl
 i20 := by kernel_rfl
 i37 := by kernel_rfl
 i46 := by kernel_rfl
 i51 := by kernel_rfl
 i53 := by kernel_rfl
 i171 := by kernel_rfl
 i173 := by kernel_rfl
 i212 := by kernel_rfl
 i232 := by kernel_rfl
 i233 := by kernel_rfl
 m17 := by kernel_rfl
 m18 := by kernel_rfl
 m19 := by kernel_rfl }
def atoiL_ren : Go.Shelf.Ren := ⟨fun | 172 => 84 | 244 => 100 | 245 => 101 | 247 => 117 | 279 => 118 | 280 => 119 | 281 => 120 | 282 => 121 | 287 => 148 | 316 => 149 | 171 => 79 | 205 => 150 | 321 => 165 | 322 => 166 | 243 => 98 | 246 => 115 | 283 => 144 | 284 => 145 | 285 => 146 | 286 => 147 | 129 => 132 | 317 => 161 | 318 => 162 | 319 => 163 | 320 => 164 | 337 => 169 | 338 => 170 | n => n, fun | 9 => 9 | 3 => 3 | 75 => 130 | 76 => 131 | 4 => 4 | 5 => 5 | 167 => 156 | 37 => 32 | 0 => 0 | 85 => 157 | 2 => 2 | 168 => 159 | 53 => 142 | 175 => 185 | 46 => 23 | 210 => 189 | 127 => 205 | 145 => 208 | 143 => 206 | 21 => 21 | 171 => 181 | 173 => 183 | 212 => 202 | 51 => 141 | 20 => 20 | 213 => 203 | 232 => 213 | 233 => 214 | 80 => 215 | n => n, fun | 15 => 0 | 16 => 1 | 17 => 2 | 18 => 3 | 19 => 4 | n => n⟩
theorem atoiL : Go.Proofs.LaysC.n172 Tryz.prog atoiL_ren := {
 mixed := by kernel_rfl
 f129 := Tryz.func132.trans (congrArg some (by kernel_rfl))
 f171 := Tryz.func79.trans (congrArg some (by kernel_rfl))
 f172 := Tryz.func84.trans (congrArg some (by kernel_rfl))
 f205 := Tryz.func150.trans (congrArg some (by kernel_rfl))
 f243 := Tryz.func98.trans (congrArg some (by kernel_rfl))
 f244 := Tryz.func100.trans (congrArg some (by kernel_rfl))
 f245 := Tryz.func101.trans (congrArg some (by kernel_rfl))
 f246 := Tryz.func115.trans (congrArg some (by kernel_rfl))
 f247 := Tryz.func117.trans (congrArg some (by kernel_rfl))
 f279 := Tryz.func118.trans (congrArg some (by kernel_rfl))
 f280 := Tryz.func119.trans (congrArg some (by kernel_rfl))
 f281 := Tryz.func120.trans (congrArg some (by kernel_rfl))
 f282 := Tryz.func121.trans (congrArg some (by kernel_rfl))
 f283 := Tryz.func144.trans (congrArg some (by kernel_rfl))
 f284 := Tryz.func145.trans (congrArg some (by kernel_rfl))
 f285 := Tryz.func146.trans (congrArg some (by kernel_rfl))
 f286 := Tryz.func147.trans (congrArg some (by kernel_rfl))
 f287 := Tryz.func148.trans (congrArg some (by kernel_rfl))
 f316 := Tryz.func149.trans (congrArg some (by kernel_rfl))
 f317 := Tryz.func161.trans (congrArg some (by kernel_rfl))
 f318 := Tryz.func162.trans (congrArg some (by kernel_rfl))
 f319 := Tryz.func163.trans (congrArg some (by kernel_rfl))
 f320 := Tryz.func164.trans (congrArg some (by kernel_rfl))
 f321 := Tryz.func165.trans (congrArg some (by kernel_rfl))
 f322 := Tryz.func166.trans (congrArg some (by kernel_rfl))
 f337 := Tryz.func169.trans (congrArg some (by kernel_rfl))
 f338 := Tryz.func170.trans (congrArg some (by kernel_rfl))
 t0 := Tryz.underlying0
 a0 := Tryz.isAgg0
 z0 := Tryz.sizeOf0
 v0 := Tryz.zeroValue0
 t2 := Tryz.underlying2
 a2 := Tryz.isAgg2
 z2 := Tryz.sizeOf2
 v2 := Tryz.zeroValue2
 t3 := Tryz.underlying3
 a3 := Tryz.isAgg3
 z3 := Tryz.sizeOf3
 v3 := Tryz.zeroValue3
 t4 := Tryz.underlying4
 a4 := Tryz.isAgg4
 z4 := Tryz.sizeOf4
 v4 := Tryz.zeroValue4
 t5 := Tryz.underlying5
 a5 := Tryz.isAgg5
 z5 := Tryz.sizeOf5
 v5 := Tryz.zeroValue5
 t9 := Tryz.underlying9
 a9 := Tryz.isAgg9
 z9 := Tryz.sizeOf9
 v9 := Tryz.zeroValue9
 t20 := Tryz.underlying20
 a20 := Tryz.isAgg20
 z20 := Tryz.sizeOf20
 v20 := Tryz.zeroValue20
 t21 := Tryz.underlying21
 a21 := Tryz.isAgg21
 z21 := Tryz.sizeOf21
 v21 := Tryz.zeroValue21
 t37 := Tryz.underlying32
 a37 := Tryz.isAgg32
 z37 := Tryz.sizeOf32
 v37 := Tryz.zeroValue32
 t46 := Tryz.underlying23
 a46 := Tryz.isAgg23
 z46 := Tryz.sizeOf23
 v46 := Tryz.zeroValue23
 t51 := Tryz.underlying141
 a51 := Tryz.isAgg141
 z51 := Tryz.sizeOf141
 v51 := Tryz.zeroValue141
 t53 := Tryz.underlying142
 a53 := Tryz.isAgg142
 z53 := Tryz.sizeOf142
 v53 := Tryz.zeroValue142
 t75 := Tryz.underlying130
 a75 := Tryz.isAgg130
 z75 := Tryz.sizeOf130
 v75 := Tryz.zeroValue130
 t76 := Tryz.underlying131
 a76 := Tryz.isAgg131
 z76 := Tryz.sizeOf131
 v76 := Tryz.zeroValue131
 t85 := Tryz.underlying157
 a85 := Tryz.isAgg157
 z85 := Tryz.sizeOf157
 v85 := Tryz.zeroValue157
 t127 := Tryz.underlying205
 a127 := Tryz.isAgg205
 z127 := Tryz.sizeOf205
 v127 := Tryz.zeroValue205
 t143 := Tryz.underlying206
 a143 := Tryz.isAgg206
 z143 := Tryz.sizeOf206
 v143 := Tryz.zeroValue206
 t145 := Tryz.underlying208
 a145 := Tryz.isAgg208
 z145 := Tryz.sizeOf208
 v145 := Tryz.zeroValue208
 t167 := Tryz.underlying156
 a167 := Tryz.isAgg156
 z167 := Tryz.sizeOf156
 v167 := Tryz.zeroValue156
 t168 := Tryz.underlying159
 a168 := Tryz.isAgg159
 z168 := Tryz.sizeOf159
 v168 := Tryz.zeroValue159
 t171 := Tryz.underlying181
 a171 := Tryz.isAgg181
 z171 := Tryz.sizeOf181
 v171 := Tryz.zeroValue181
 t173 := Tryz.underlying183
 a173 := Tryz.isAgg183
 z173 := Tryz.sizeOf183
 v173 := Tryz.zeroValue183
 t175 := Tryz.underlying185
 a175 := Tryz.isAgg185
 z175 := Tryz.sizeOf185
 v175 := Tryz.zeroValue185
 t210 := Tryz.underlying189
 a210 := Tryz.isAgg189
 z210 := Tryz.sizeOf189
 v210 := Tryz.zeroValue189
 t212 := Tryz.underlying202
 a212 := Tryz.isAgg202
 z212 := Tryz.sizeOf202
 v212 := Tryz.zeroValue202
 t213 := Tryz.underlying203
 a213 := Tryz.isAgg203
 z213 := Tryz.sizeOf203
 t232 := Tryz.underlying213
 a232 := Tryz.isAgg213
 z232 := Tryz.sizeOf213
 v232 := Tryz.zeroValue213
 t233 := Tryz.underlying214
 a233 := Tryz.isAgg214
 z233 := Tryz.sizeOf214
 v233 := Tryz.zeroValue214
 g15 := by kernel_rfl
 g16 := by kernel_rfl
 g17 := by kernel_rfl
 g18 := by kernel_rfl
 g19 := by kernel_rfl
 t80 := Tryz.underlying215
 a80 := Tryz.isAgg215
 z80 := Tryz.sizeOf215
 v80 := Tryz.zeroValue215
 i0 := by kernel_rfl
 i2 := by kernel_rfl
 i3 := by kernel_rfl
 i4 := by kernel_rfl
 i5 := by kernel_rfl
 i9 := by kernel_rfl
 i20 := by kernel_rfl
 i21 := by kernel_rfl
 i37 := by kernel_rfl
 i46 := by kernel_rfl
 i51 := by kernel_rfl
 i53 := by kernel_rfl
 i75 := by kernel_rfl
 i76 := by kernel_rfl
 i80 := by kernel_rfl
 i85 := by kernel_rfl
 i127 := by kernel_rfl
 i143 := by kernel_rfl
 i145 := by kernel_rfl
 i167 := by kernel_rfl
 i168 := by kernel_rfl
 i171 := by kernel_rfl
 i173 := by kernel_rfl
 i175 := by kernel_rfl
 i210 := by kernel_rfl
 i212 := by kernel_rfl
 i232 := by kernel_rfl
 i233 := by kernel_rfl
 m15 := by kernel_rfl
 m16 := by kernel_rfl
 m17 := by kernel_rfl
 m18 := by kernel_rfl
 m19 := by kernel_rfl
 c0 := by kernel_rfl
 c2 := by kernel_rfl
 c3 := by kernel_rfl
 c4 := by kernel_rfl
 c5 := by kernel_rfl
 c9 := by kernel_rfl
 c20 := by kernel_rfl
 c21 := by kernel_rfl
 c37 := by kernel_rfl
 c46 := by kernel_rfl
 c51 := by kernel_rfl
 c53 := by kernel_rfl
 c75 := by kernel_rfl
 c76 := by kernel_rfl
 c80 := by kernel_rfl
 c85 := by kernel_rfl
 c127 := by kernel_rfl
 c143 := by kernel_rfl
 c145 := by kernel_rfl
 c167 := by kernel_rfl
 c168 := by kernel_rfl
 c171 := by kernel_rfl
 c173 := by kernel_rfl
 c175 := by kernel_rfl
 c210 := by kernel_rfl
 c212 := by kernel_rfl
 c213 := by kernel_rfl
 c232 := by kernel_rfl
 c233 := by kernel_rfl }
def sortI_ren : Go.Shelf.Ren := ⟨fun | 5 => 85 | 8 => 103 | 7 => 102 | 19 => 131 | 20 => 132 | 10 => 122 | 11 => 123 | 12 => 124 | 13 => 125 | 14 => 126 | 15 => 127 | 16 => 128 | 17 => 129 | 18 => 130 | 30 => 151 | 31 => 152 | 32 => 153 | 33 => 154 | 34 => 155 | 35 => 156 | 40 => 167 | n => n, fun | 23 => 47 | 25 => 3 | 3 => 3 | 32 => 23 | 22 => 47 | 0 => 0 | 44 => 141 | 46 => 142 | 4 => 4 | 36 => 164 | 35 => 163 | 41 => 169 | 5 => 5 | 9 => 9 | 53 => 191 | 57 => 195 | 63 => 209 | 64 => 210 | n => n, fun | n => n⟩
theorem sortI : Go.Proofs.SlLaysM.n5 Tryz.prog sortI_ren := {
 mixed := by kernel_rfl
 f5 := ⟨Tryz.f85.name, by decide, Tryz.func85.trans (congrArg some (by kernel_rfl))⟩
 f7 := ⟨Tryz.f102.name, by decide, Tryz.func102.trans (congrArg some (by kernel_rfl))⟩
 f8 := Tryz.func103.trans (congrArg some (by kernel_rfl))
 f10 := ⟨Tryz.f122.name, by decide, Tryz.func122.trans (congrArg some (by kernel_rfl))⟩
 f11 := ⟨Tryz.f123.name, by decide, Tryz.func123.trans (congrArg some (by kernel_rfl))⟩
 f12 := ⟨Tryz.f124.name, by decide, Tryz.func124.trans (congrArg some (by kernel_rfl))⟩
 f13 := ⟨Tryz.f125.name, by decide, Tryz.func125.trans (congrArg some (by kernel_rfl))⟩
 f14 := ⟨Tryz.f126.name, by decide, Tryz.func126.trans (congrArg some (by kernel_rfl))⟩
 f15 := ⟨Tryz.f127.name, by decide, Tryz.func127.trans (congrArg some (by kernel_rfl))⟩
 f16 := ⟨Tryz.f128.name, by decide, Tryz.func128.trans (congrArg some (by kernel_rfl))⟩
 f17 := ⟨Tryz.f129.name, by decide, Tryz.func129.trans (congrArg some (by kernel_rfl))⟩
 f18 := ⟨Tryz.f130.name, by decide, Tryz.func130.trans (congrArg some (by kernel_rfl))⟩
 f19 := Tryz.func131.trans (congrArg some (by kernel_rfl))
 f20 := Tryz.func132.trans (congrArg some (by kernel_rfl))
 f30 := ⟨Tryz.f151.name, by decide, Tryz.func151.trans (congrArg some (by kernel_rfl))⟩
 f31 := Tryz.func152.trans (congrArg some (by kernel_rfl))
 f32 := Tryz.func153.trans (congrArg some (by kernel_rfl))
 f33 := ⟨Tryz.f154.name, by decide, Tryz.func154.trans (congrArg some (by kernel_rfl))⟩
 f34 := ⟨Tryz.f155.name, by decide, Tryz.func155.trans (congrArg some (by kernel_rfl))⟩
 f35 := ⟨Tryz.f156.name, by decide, Tryz.func156.trans (congrArg some (by kernel_rfl))⟩
 f40 := ⟨Tryz.f167.name, by decide, Tryz.func167.trans (congrArg some (by kernel_rfl))⟩
 t0 := Tryz.underlying0
 a0 := Tryz.isAgg0
 z0 := Tryz.sizeOf0
 v0 := Tryz.zeroValue0
 t3 := Tryz.underlying3
 a3 := Tryz.isAgg3
 z3 := Tryz.sizeOf3
 v3 := Tryz.zeroValue3
 t4 := Tryz.underlying4
 a4 := Tryz.isAgg4
 z4 := Tryz.sizeOf4
 v4 := Tryz.zeroValue4
 t5 := Tryz.underlying5
 a5 := Tryz.isAgg5
 z5 := Tryz.sizeOf5
 v5 := Tryz.zeroValue5
 t9 := Tryz.underlying9
 a9 := Tryz.isAgg9
 z9 := Tryz.sizeOf9
 v9 := Tryz.zeroValue9
 t22 := Tryz.underlying47
 a22 := Tryz.isAgg47
 z22 := Tryz.sizeOf47
 v22 := Tryz.zeroValue47
 t23 := Tryz.underlying47
 a23 := Tryz.isAgg47
 z23 := Tryz.sizeOf47
 v23 := Tryz.zeroValue47
 t25 := Tryz.underlying3
 a25 := Tryz.isAgg3
 z25 := Tryz.sizeOf3
 v25 := Tryz.zeroValue3
 t32 := Tryz.underlying23
 a32 := Tryz.isAgg23
 z32 := Tryz.sizeOf23
 v32 := Tryz.zeroValue23
 t35 := Tryz.underlying163
 a35 := Tryz.isAgg163
 z35 := Tryz.sizeOf163
 v35 := Tryz.zeroValue163
 t36 := Tryz.underlying164
 a36 := Tryz.isAgg164
 z36 := Tryz.sizeOf164
 v36 := Tryz.zeroValue164
 t41 := Tryz.underlying169
 a41 := Tryz.isAgg169
 z41 := Tryz.sizeOf169
 v41 := Tryz.zeroValue169
 t44 := Tryz.underlying141
 a44 := Tryz.isAgg141
 z44 := Tryz.sizeOf141
 v44 := Tryz.zeroValue141
 t46 := Tryz.underlying142
 a46 := Tryz.isAgg142
 z46 := Tryz.sizeOf142
 v46 := Tryz.zeroValue142
 t53 := Tryz.underlying191
 a53 := Tryz.isAgg191
 z53 := Tryz.sizeOf191
 v53 := Tryz.zeroValue191
 t57 := Tryz.underlying195
 a57 := Tryz.isAgg195
 z57 := Tryz.sizeOf195
 v57 := Tryz.zeroValue195
 t63 := Tryz.underlying209
 a63 := Tryz.isAgg209
 z63 := Tryz.sizeOf209
 v63 := Tryz.zeroValue209
 t64 := Tryz.underlying210
 a64 := Tryz.isAgg210
 z64 := Tryz.sizeOf210
 v64 := Tryz.zeroValue210 }
end
section
open Go.RowKit Go.Sort Go.Shelf
theorem gTab : Tryz.prog.globalNamed "internal/strconv.uint64pow10" = some 2 := by kernel_rfl
def TabOk (w : World) : Prop := Lib.TabIs Tryz.prog w "internal/strconv.uint64pow10" .u64 Lib.pow10Tab
/-- the library's variables hold what the program's text lays -/
structure LaidOk (w : World) : Prop where
  tab : TabOk w
  e1 : ∃ t p, w.cell? ⟨0, 0, none⟩ = some (.iface t p)
  e2 : ∃ t p, w.cell? ⟨1, 0, none⟩ = some (.iface t p)
  size : 5 ≤ w.heap.size
theorem LaidOk.keep {S : Nat → Prop} {w w' : World} (h : LaidOk w) (k : Keeps S w w') (hs : ∀ q, S q → 5 ≤ q) : LaidOk w' := by
 have e : ∀ q, q < 5 → w'.heap[q]? = w.heap[q]? := fun q hq => k.block q (Nat.lt_of_lt_of_le hq h.size) (fun hS => absurd (hs q hS) (by omega)); obtain ⟨h1, h2, h3, h4⟩ := h; refine ⟨?_, ?_, ?_, Nat.le_trans h4 k.size⟩
 ·unfold TabOk Lib.TabIs World.var? at h1 ⊢
  rw [gTab] at h1 ⊢; simp only [Option.bind_some] at h1 ⊢; rw [e 2 (by decide)]; exact h1
 ·unfold World.cell? at h2 ⊢
  rw [e 0 (by decide)]; exact h2
 ·unfold World.cell? at h3 ⊢
  rw [e 1 (by decide)]; exact h3
theorem LaidOk.ext {w w' : World} (h : LaidOk w) (k : Ext w w') : LaidOk w' := h.keep k fun _ h => h.elim
theorem ext_grow (w : World) (k : Nat) (os : Array Obj) : Ext w (grow (w.drewN k) os) := by
 refine ⟨rfl, rfl, rfl, ?_, fun b hb _ => ?_⟩
 ·simp [grow, World.drewN]
 ·simp only [grow, World.drewN, Array.getElem?_append_left hb]
theorem itoa_ (n : Int) (w : World) (h0 : -9223372036854775808 ≤ n) (h1 : n ≤ 9223372036854775807) (ht : TabOk w) :
  Calls Tryz.prog 79 #[.int .i64 n] w (Ret fun v w' => v = .string ⟨(Lib.itoa n).toArray⟩ ∧ Ext w w') :=
 (Any.strconv_Itoa itoaL n h0 h1 w ht).mono fun e w' ⟨he, k, os, hw⟩ => ⟨_, he, rfl, hw ▸ ext_grow w k os⟩
theorem atoi_ (s : ByteArray) (w : World) (hl : s.size ≤ 4294967295) (h : LaidOk w) :
  Calls Tryz.prog 84 #[.string s] w (Ret fun v w' => (∃ n, Lib.atoiAll s.data.toList = .ok n ∧ v = .tuple #[.int .i64 n, .nilIface] ∧ Ext w w') ∨ ((∀ n, Lib.atoiAll s.data.toList ≠ .ok n) ∧ ∃ n t p, v = .tuple #[.int .i64 n, .iface t (.pointer p)] ∧ Ext w w')) := by
 obtain ⟨t1, p1, e1⟩ := h.e1; obtain ⟨t2, p2, e2⟩ := h.e2
 rcases hc : Lib.atoiAll s.data.toList with n | _ | _
 ·refine (Any.strconv_Atoi_ok atoiL s (by omega) n hc w).mono fun e w' ⟨he, hw⟩ => ⟨_, he, .inl ⟨n, rfl, rfl, ?_⟩⟩; rcases hw with rfl | ⟨t, rfl⟩
  ·exact Keeps.refl _ _
  ·exact below_ext (Lib.bytesWorld_below _ _ _)
 ·exact (Any.strconv_Atoi_syntax atoiL s (by omega) hc _ w e1 (.inr ⟨t1, p1, rfl⟩)).mono fun e w' ⟨N, he, _, _, hb⟩ => ⟨_, he, .inr ⟨(fun n h => by cases h), _, _, _, rfl, below_ext hb⟩⟩
 ·exact (Any.strconv_Atoi_range atoiL s (by omega) hc _ w e2 (.inr ⟨t2, p2, rfl⟩)).mono fun e w' ⟨N, he, _, _, hb⟩ => ⟨_, he, .inr ⟨(fun n h => by cases h), _, _, _, rfl, below_ext hb⟩⟩
theorem flat_ints (l : List Int) : flat l = l.map (Value.int .i64) := by
 induction l with
 | nil => rfl
 | cons x l ih => rw [flat_cons, ih]; rfl
end
/-! ### names -/
def logB : ByteArray := ⟨#[108, 111, 103, 46]⟩
def nameS (n : Int) : ByteArray := if 1 ≤ n ∧ n ≤ 999999999 then logB ++ ⟨(Lib.itoa n).toArray⟩ else ⟨#[]⟩
def digs (m : Nat) : List UInt8 := if m = 0 then [] else Lib.decDigits m
theorem dec_len : ∀ (k u : Nat), u < 10 ^ (k + 1) → (Lib.decDigits u).length ≤ k + 1
 | 0, u, h => by rw [Lib.decDigits, dif_pos (by omega)]; simp
 | k + 1, u, h => by
  rw [Lib.decDigits]
  split
  ·simp
  ·have := dec_len k (u / 10) (by rw [Nat.pow_succ] at h; omega)
   simp only [List.length_append, List.length_singleton]; omega
theorem itoa_len {n : Int} (h0 : 1 ≤ n) (h1 : n ≤ 999999999) : (Lib.itoa n).length ≤ 9 := by
 rw [Lib.itoa, if_neg (by omega)]; exact dec_len 8 _ (by omega)
theorem digs_step {m : Nat} (h : 0 < m) : digs m = digs (m / 10) ++ [UInt8.ofNat (48 + m % 10)] := by
 rw [digs, if_neg (by omega), Lib.decDigits]; by_cases c : m < 10
 ·rw [dif_pos c, digs, if_pos (by omega), Nat.mod_eq_of_lt c]; rfl
 ·rw [dif_neg c, digs, if_neg (by omega)]
theorem name_no {n : Int} (h : n < 1 ∨ 999999999 < n) : nameS n = ⟨#[]⟩ := if_neg (by omega)
theorem name_yes {n : Int} (h : ¬ (n < 1 ∨ 999999999 < n)) : nameS n = logB ++ ⟨(Lib.itoa n).toArray⟩ := if_pos (by omega)
theorem name_dig {n : Int} {t : ByteArray} (h : ¬ (n < 1 ∨ 999999999 < n)) (ht : digs 0 ++ t.data.toList = digs n.toNat) : nameS n = logB ++ t := by
 rw [name_yes h, Lib.itoa, if_neg (by omega)]
 congr 1
 have e : t.data.toList = Lib.decDigits n.toNat := by
  rw [digs, if_pos rfl, digs, if_neg (by omega)] at ht; exact ht
 exact ByteArray.ext (by rw [← e])
theorem dig_next {m : Nat} {t : ByteArray} {D : List UInt8} (h : 0 < m) (ht : digs m ++ t.data.toList = D) : digs (m / 10) ++ ((⟨([UInt8.ofNat (48 + m % 10)] : List UInt8).toArray⟩ : ByteArray) ++ t).data.toList = D := by
 rw [← ht, digs_step h, List.append_assoc]
 rfl
theorem dig_len {m : Nat} {t : ByteArray} {D : List UInt8} (ht : digs m ++ t.data.toList = D) : t.size ≤ D.length := by
 have := congrArg List.length ht; rw [List.length_append] at this; have e : t.data.toList.length = t.size := by rw [Array.length_toList]; rfl
 omega
theorem digs_len {n : Int} (h : ¬ (n < 1 ∨ 999999999 < n)) : (digs n.toNat).length ≤ 9 := by
 rw [digs, if_neg (by omega)]; exact dec_len 8 _ (by omega)
theorem tmod_dig (m : Nat) : Int.tmod ((m : Nat) : Int) 10 = ((m % 10 : Nat) : Int) := by rw [Int.tmod_eq_emod_of_nonneg (by omega)]; omega
theorem wrap_dig (m : Nat) : IntKind.u8.wrap (48 + Int.tmod ((m : Nat) : Int) 10) = ((UInt8.ofNat (48 + m % 10)).toNat : Int) := by
 have e : Int.tmod ((m : Nat) : Int) 10 = ((m % 10 : Nat) : Int) := by rw [Int.tmod_eq_emod_of_nonneg (by omega)]; omega
 have e2 : (UInt8.ofNat (48 + m % 10)).toNat = 48 + m % 10 := by rw [UInt8.toNat_ofNat']; omega
 rw [e, e2, show (48 : Int) + ((m % 10 : Nat) : Int) = ((48 + m % 10 : Nat) : Int) by omega]; have h : 48 + m % 10 < 256 := by omega
 have : ∀ k : Nat, k < 256 → IntKind.u8.wrap (k : Int) = (k : Int) := by decide +kernel
 exact this _ h
/-! ### the number of a file -/
def valD (l : List UInt8) : Nat := l.foldl (fun a c => a * 10 + (c.toNat - 48)) 0
theorem valD_snoc (l : List UInt8) (c : UInt8) : valD (l ++ [c]) = valD l * 10 + (c.toNat - 48) := by rw [valD, List.foldl_append]; rfl
def isDig (c : UInt8) : Prop := 48 ≤ c.toNat ∧ c.toNat ≤ 57
theorem dig_toNat (m : Nat) (h : m < 10) : (UInt8.ofNat (48 + m)).toNat = 48 + m := by rw [UInt8.toNat_ofNat']; omega
theorem valD_dec : ∀ (u : Nat), valD (Lib.decDigits u) = u := fun u => by
 induction u using Nat.strongRecOn with
 | _ u ih =>
  rw [Lib.decDigits]; by_cases c : u < 10
  ·rw [dif_pos c, valD, List.foldl_cons, List.foldl_nil, dig_toNat u c]; omega
  ·rw [dif_neg c, valD_snoc, ih (u / 10) (by omega), dig_toNat _ (by omega)]; omega
theorem dec_dig : ∀ (u : Nat), ∀ c ∈ Lib.decDigits u, isDig c := fun u => by
 induction u using Nat.strongRecOn with
 | _ u ih =>
  intro x hx; rw [Lib.decDigits] at hx; by_cases c : u < 10
  ·rw [dif_pos c] at hx
   simp only [List.mem_singleton] at hx; subst hx; rw [isDig, dig_toNat u c]; omega
  ·rw [dif_neg c] at hx
   rcases List.mem_append.1 hx with hx | hx
   ·exact ih (u / 10) (by omega) x hx
   ·simp only [List.mem_singleton] at hx
    subst hx; rw [isDig, dig_toNat _ (by omega)]; omega
theorem dec_ne (u : Nat) : Lib.decDigits u ≠ [] := by
 rw [Lib.decDigits]
 split
 ·simp
 ·simp
/-- digits whose first one is not 0 are those of their number -/
theorem dec_val : ∀ (l : List UInt8), (∀ c ∈ l, isDig c) → l ≠ [] → (∀ c, l[0]? = some c → c.toNat ≠ 48) → Lib.decDigits (valD l) = l ∧ 0 < valD l := by
 intro l
 induction h : l.length generalizing l with
 | zero => intro _ h2; exact absurd (List.eq_nil_of_length_eq_zero h) h2
 | succ k ih =>
  intro hd hne h0; obtain ⟨r, c, rfl⟩ : ∃ r c, l = r ++ [c] := ⟨l.dropLast, l.getLast hne, (List.dropLast_concat_getLast hne).symm⟩; have hc : isDig c := hd c (by simp)
  have hcc : UInt8.ofNat (48 + (c.toNat - 48)) = c := by
   apply UInt8.toNat_inj.1; rw [dig_toNat _ (by have := hc.1; have := hc.2; omega)]; have := hc.1; omega
  have hc1 := hc.1; have hc2 := hc.2; rw [valD_snoc]; by_cases hr : r = []
  ·subst hr
   have := h0 c rfl; have e : valD [] = 0 := rfl; rw [e, Nat.zero_mul, Nat.zero_add, Lib.decDigits, dif_pos (by omega), hcc]; exact ⟨rfl, by omega⟩
  ·have hk : r.length = k := by simpa using h
   obtain ⟨h1, h2⟩ := ih r hk (fun x hx => hd x (by simp [hx])) hr (fun x hx => h0 x (by
    cases r with
    | nil => exact absurd rfl hr
    | cons y r => simpa using hx))
   refine ⟨?_, by omega⟩; rw [Lib.decDigits, dif_neg (by omega), show (valD r * 10 + (c.toNat - 48)) / 10 = valD r by omega, show (valD r * 10 + (c.toNat - 48)) % 10 = c.toNat - 48 by omega, hcc, h1]
theorem valD_lt : ∀ (l : List UInt8), (∀ c ∈ l, isDig c) → valD l < 10 ^ l.length := by
 intro l
 induction h : l.length generalizing l with
 | zero => intro _; have := List.eq_nil_of_length_eq_zero h; subst this; decide
 | succ k ih =>
  intro hd; obtain ⟨r, c, rfl⟩ : ∃ r c, l = r ++ [c] := ⟨l.dropLast, l.getLast (by intro e; subst e; simp at h), (List.dropLast_concat_getLast _).symm⟩; have := ih r (by simpa using h) (fun x hx => hd x (by simp [hx])); have hc := (hd c (by simp)).2; rw [valD_snoc, Nat.pow_succ]; omega
theorem logB_size : logB.size = 4 := rfl
theorem nameS_nat {n : Nat} (h1 : 1 ≤ n) (h2 : n ≤ 999999999) : nameS (n : Int) = logB ++ ⟨(Lib.decDigits n).toArray⟩ := by
 rw [name_yes (by omega), Lib.itoa, if_neg (by omega)]; rfl
theorem nameS_list {n : Nat} (h1 : 1 ≤ n) (h2 : n ≤ 999999999) : (nameS (n : Int)).data.toList = [108, 111, 103, 46] ++ Lib.decDigits n := by
 rw [nameS_nat h1 h2, ByteArray.data_append, Array.toList_append]; rfl
theorem ba_ext {a b : ByteArray} (h : a.data.toList = b.data.toList) : a = b := ByteArray.ext (Array.toList_inj.1 h)
theorem nameS_inj {n m : Nat} (h1 : 1 ≤ n) (h2 : n ≤ 999999999) (h3 : 1 ≤ m) (h4 : m ≤ 999999999) (e : nameS (n : Int) = nameS (m : Int)) : n = m := by
 have := congrArg (fun b => b.data.toList) e; simp only [nameS_list h1 h2, nameS_list h3 h4] at this; have := List.append_cancel_left this; rw [← valD_dec n, ← valD_dec m, this]
open Classical in
/-- the number of a segment's file; 0: it is none -/
noncomputable def segN (s : ByteArray) : Nat := if h : ∃ n : Nat, 1 ≤ n ∧ n ≤ 999999999 ∧ nameS (n : Int) = s then Classical.choose h else 0
theorem segN_name {n : Nat} (h1 : 1 ≤ n) (h2 : n ≤ 999999999) : segN (nameS (n : Int)) = n := by
 have h : ∃ k : Nat, 1 ≤ k ∧ k ≤ 999999999 ∧ nameS (k : Int) = nameS (n : Int) := ⟨n, h1, h2, rfl⟩; rw [segN, dif_pos h]; have := Classical.choose_spec h; exact nameS_inj this.1 this.2.1 h1 h2 this.2.2
theorem segN_pos {s : ByteArray} (h : segN s ≠ 0) : 1 ≤ segN s ∧ segN s ≤ 999999999 ∧ nameS (segN s : Int) = s := by
 by_cases c : ∃ n : Nat, 1 ≤ n ∧ n ≤ 999999999 ∧ nameS (n : Int) = s
 ·rw [segN, dif_pos c] at h ⊢
  exact Classical.choose_spec c
 ·rw [segN, dif_neg c] at h; exact absurd rfl h
theorem segN_none {s : ByteArray} (h : ∀ n : Nat, 1 ≤ n → n ≤ 999999999 → nameS (n : Int) ≠ s) : segN s = 0 := by
 rw [segN, dif_neg]; rintro ⟨n, h1, h2, h3⟩; exact h n h1 h2 h3
/-- that a name begins as segments' files do -/
def hasP (s : ByteArray) : Bool := decide (4 ≤ s.size) && decide (s.extract 0 4 = logB)
def restP (s : ByteArray) : ByteArray := s.extract 4 s.size
theorem ext_list (s : ByteArray) (i j : Nat) : (s.extract i j).data.toList = (s.data.toList.drop i).take (j - i) := by
 rw [ByteArray.data_extract, Array.toList_extract, List.extract]
theorem nameS_has {n : Nat} (h1 : 1 ≤ n) (h2 : n ≤ 999999999) : hasP (nameS (n : Int)) = true ∧ (restP (nameS (n : Int))).data.toList = Lib.decDigits n := by
 have hl := nameS_list h1 h2
 have hsz : (nameS (n : Int)).size = 4 + (Lib.decDigits n).length := by
  have := congrArg List.length hl; rw [Array.length_toList, List.length_append] at this; exact this
 constructor
 ·rw [hasP, Bool.and_eq_true, decide_eq_true_iff, decide_eq_true_iff]
  refine ⟨by omega, ba_ext ?_⟩; rw [ext_list, hl]; simp [logB]
 ·rw [restP, ext_list, hl, hsz]
  simp
theorem atoi_dec {n : Nat} (h1 : 1 ≤ n) (h2 : n ≤ 999999999) : Lib.atoiAll (Lib.decDigits n) = .ok (n : Int) := by
 have key : ∀ (l : List UInt8) (acc : Nat), (∀ c ∈ l, isDig c) → l.foldl (fun a c => a * 10 + (c.toNat - 48)) acc ≤ 999999999 → Lib.parseUint10 acc l = .ok (l.foldl (fun a c => a * 10 + (c.toNat - 48)) acc) := by
  intro l
  induction l with
  | nil => intro acc _ _; rfl
  | cons c r ih =>
   intro acc hd hle
   have mono : ∀ (l : List UInt8) (a : Nat), a ≤ l.foldl (fun a c => a * 10 + (c.toNat - 48)) a := by
    intro l
    induction l with
    | nil => intro a; exact Nat.le_refl _
    | cons x r ih => intro a; exact Nat.le_trans (show a ≤ a * 10 + (x.toNat - 48) by omega) (ih _)
   have hc := hd c (by simp); have h3 := mono r (acc * 10 + (c.toNat - 48)); rw [List.foldl_cons] at hle ⊢; rw [Lib.parseUint10, if_pos ⟨hc.1, hc.2⟩, if_neg (by omega), if_neg (by omega)]; exact ih _ (fun x hx => hd x (by simp [hx])) hle
 have hd := dec_dig n; have hv := valD_dec n; have hne := dec_ne n
 generalize Lib.decDigits n = l at *
 cases l with
 | nil => exact absurd rfl hne
 | cons c r =>
  have hc := hd c (by simp); have hc1 := hc.1; have hc2 := hc.2
  have hp : Lib.parseMag (c :: r) = .ok n := by
   rw [Lib.parseMag, if_neg (by simp), key _ 0 hd (by rw [valD] at hv; omega)]; rw [valD] at hv; rw [hv]
  simp only [Lib.atoiAll]; rw [if_neg (by omega), hp]; simp only; rw [if_neg (by omega), if_neg (by omega), if_neg (by omega)]
noncomputable def segO (s : ByteArray) : Option Int := if segN s = 0 then none else some (segN s : Int)
theorem seg_yes {s : ByteArray} {n : Int} (hm : s.size ≠ 0) (h : nameS n = s) : segO s = some n := by
 by_cases c : n < 1 ∨ 999999999 < n
 ·rw [name_no c] at h; subst h; exact absurd rfl hm
 ·obtain ⟨k, rfl⟩ : ∃ k : Nat, n = k := ⟨n.toNat, by omega⟩
  subst h; rw [segO, segN_name (by omega) (by omega), if_neg (by omega)]
theorem seg_no_pre {s : ByteArray} (h : hasP s = false) : segO s = none := by
 rw [segO, segN_none, if_pos rfl]; rintro n h1 h2 rfl; rw [(nameS_has h1 h2).1] at h; cases h
theorem seg_no_num {s : ByteArray} (h : ∀ n, Lib.atoiAll (restP s).data.toList ≠ .ok n) : segO s = none := by
 rw [segO, segN_none, if_pos rfl]; rintro n h1 h2 rfl; exact h n (by rw [(nameS_has h1 h2).2]; exact atoi_dec h1 h2)
theorem seg_no_name {s : ByteArray} {n : Int} (h : Lib.atoiAll (restP s).data.toList = .ok n) (h2 : nameS n ≠ s) : segO s = none := by
 rw [segO, segN_none, if_pos rfl]; rintro m h3 h4 rfl; rw [(nameS_has h3 h4).2, atoi_dec h3 h4] at h
 injection h with h
 exact h2 (by rw [← h])
theorem segO_some {s : ByteArray} {n : Int} (h : segO s = some n) : 1 ≤ n ∧ n ≤ 999999999 ∧ nameS n = s := by
 rw [segO] at h
 split at h
 ·cases h
 ·rename_i h0
  have := segN_pos h0
  injection h with h
  subst h; exact ⟨by omega, by omega, this.2.2⟩
noncomputable def segI (ns : List ByteArray) : List Int := ns.filterMap segO
theorem segI_yes {ns : List ByteArray} {i : Nat} {s : ByteArray} {n : Int} (h : ns[i]? = some s) (h2 : segO s = some n) : segI (ns.take (i + 1)) = segI (ns.take i) ++ [n] := by
 obtain ⟨hi, rfl⟩ := List.getElem?_eq_some_iff.1 h; rw [segI, List.take_succ_eq_append_getElem hi, List.filterMap_append, List.filterMap_cons_some h2]; rfl
theorem segI_no {ns : List ByteArray} {i : Nat} {s : ByteArray} (h : ns[i]? = some s) (h2 : segO s = none) : segI (ns.take (i + 1)) = segI (ns.take i) := by
 obtain ⟨hi, rfl⟩ := List.getElem?_eq_some_iff.1 h; rw [segI, List.take_succ_eq_append_getElem hi, List.filterMap_append, List.filterMap_cons_none h2, List.filterMap_nil, List.append_nil]; rfl
theorem segI_len (ns : List ByteArray) (i : Nat) : (segI (ns.take i)).length ≤ ns.length := Nat.le_trans (List.length_filterMap_le _ _) (by rw [List.length_take]; omega)
def leI (x y : Int) : Bool := decide (x ≤ y)
def sortZ (l : List Int) : List Int := l.mergeSort (fun x y => decide (x ≤ y))
/-- the segments' numbers, rising -/
noncomputable def segsL (pl : List PF) : List Int := sortZ (segI (namesS pl))
theorem sortZ_perm (l : List Int) : (sortZ l).Perm l := List.mergeSort_perm _ _
theorem sortZ_sorted (l : List Int) : (sortZ l).Pairwise (· ≤ ·) := (List.pairwise_mergeSort (le := fun x y => decide (x ≤ y)) (fun a b c h1 h2 => by simp only [decide_eq_true_eq] at *; omega) (fun a b => by simp only [Bool.or_eq_true, decide_eq_true_eq]; omega) l).imp fun h => by simpa using h
theorem sorted_unique : ∀ {l m : List Int}, l.Perm m → l.Pairwise (· ≤ ·) → m.Pairwise (· ≤ ·) → l = m := fun p h1 h2 => p.eq_of_pairwise (fun a b _ _ h h' => by omega) h1 h2
theorem segsL_mem {pl : List PF} {n : Int} : n ∈ segsL pl ↔ 1 ≤ n ∧ n ≤ 999999999 ∧ hasL pl (nameS n) = true := by
 rw [segsL, (sortZ_perm _).mem_iff, segI, List.mem_filterMap]
 constructor
 ·rintro ⟨s, hs, h⟩
  have h3 := segO_some h; rw [namesS, sortN_mem.mem_iff] at hs; obtain ⟨f, hf, rfl⟩ := List.mem_map.1 hs; exact ⟨h3.1, h3.2.1, hasL_iff.2 ⟨f, hf, h3.2.2.symm⟩⟩
 ·rintro ⟨h1, h2, h3⟩
  obtain ⟨f, hf, e⟩ := hasL_iff.1 h3; refine ⟨nameS n, ?_, ?_⟩
  ·rw [namesS, sortN_mem.mem_iff]; exact List.mem_map.2 ⟨f, hf, e⟩
  ·obtain ⟨k, rfl⟩ : ∃ k : Nat, n = k := ⟨n.toNat, by omega⟩
   rw [segO, segN_name (by omega) (by omega), if_neg (by omega)]
theorem segsL_nodup {pl : List PF} (h : (pl.map (·.name)).Nodup) : (segsL pl).Nodup := by
 rw [segsL, (sortZ_perm _).nodup_iff, segI]; have h2 : (namesS pl).Nodup := sortN_mem.nodup_iff.2 h; rw [List.Nodup, List.pairwise_filterMap]; exact h2.imp fun {a b} hne x hx y hy e => hne (by rw [← (segO_some hx).2.2, ← (segO_some hy).2.2, e])
theorem segsL_rise {pl : List PF} (h : (pl.map (·.name)).Nodup) : (segsL pl).Pairwise (· < ·) :=
  (List.pairwise_and_iff.2 ⟨sortZ_sorted _, segsL_nodup h⟩).imp fun ⟨h1, h2⟩ => by have : _ ≠ _ := h2; omega
theorem segsL_len (pl : List PF) : (segsL pl).length ≤ pl.length := by
 rw [segsL, (sortZ_perm _).length_eq, segI]; refine Nat.le_trans (List.length_filterMap_le _ _) ?_; rw [namesS, sortN_mem.length_eq, List.length_map]; exact Nat.le_refl _
theorem nameS_may (n : Int) : (nameS n).size ≤ 13 := by
 by_cases c : n < 1 ∨ 999999999 < n
 ·rw [name_no c]; decide
 ·rw [name_yes c, ByteArray.size_append, logB_size]
  have := itoa_len (n := n) (by omega) (by omega); have e : (⟨(Lib.itoa n).toArray⟩ : ByteArray).size = (Lib.itoa n).length := rfl; omega
section
open Go.RowKit Go.Sort Go.Shelf
theorem sortZ_nil : sortZ [] = [] := by simp [sortZ]
theorem restP_size (s : ByteArray) : (restP s).size ≤ s.size := by
 rw [restP, ByteArray.size_extract]; omega
theorem sortMI {a : Option Addr} {xs : List Int} {c : Nat} {w : World} (hs : OwnSl w 3 a c xs) (hl : xs.length ≤ 4294967295) :
  Calls Tryz.prog 85 #[.slice a xs.length c] w (Ret fun v w' => v = .tuple #[] ∧ OwnSl w' 3 a c (sortZ xs) ∧ Keeps (own a) w w') := by
 rcases hs.2 with ⟨e, h0⟩ | ⟨g, cap, cur, e, h3, h4, h5, h6, h7, h8⟩
 ·have : xs = [] := List.eq_nil_of_length_eq_zero h0
  subst this
  injection e with e1 e2 e3
  subst e1; subst e3; exact (AnyM.slices_Sort_int_none sortI none 0 w).mono fun e w' h => ⟨_, h.1, rfl, by rw [h.2, sortZ_nil]; exact OwnSl.nil _ _, by rw [h.2]; exact Keeps.refl _ _⟩
 ·injection e with e1 e2 e3
  subst e1; subst e3; have h8' : cur.toList.take xs.length = flat xs := by have e : xs.length * Enc.size Int = xs.length := Nat.mul_one _; rw [e] at h8; exact h8
  have hH : Go.Sort.Holds (Value.int .i64) w g 0 xs.toArray := holds_of_blockI h4 (by rw [h8', flat_ints]); refine (AnyM.slices_Sort_int sortI g 0 c xs w hH (Array.getElem?_eq_some_iff.1 h4).1 (by omega)).mono fun e w' he => ?_; obtain ⟨rfl, n, os, rfl⟩ := he; refine ⟨_, rfl, rfl, ?_, ?_⟩
  ·have hr := ownsRow_sortedI (n := n) (os := os) (base := 0) (ss := xs) (ts := xs.mergeSort fun x y => decide (x ≤ y)) (by simp) (Nat.zero_le _) h4 h5 h6 h7
   have e1 : (xs.mergeSort fun x y => decide (x ≤ y)).map (Value.int .i64) = flat (sortZ xs) := by rw [flat_ints]; rfl
   rw [e1] at hr; have e2 : xs.length = (sortZ xs).length := (sortZ_perm xs).length_eq.symm; rw [e2] at hr; exact hr
  ·have hg := grownBy_sortedI (w := w) (g := g) (n := n) (os := os) (xs.mergeSort fun x y => decide (x ≤ y)).toArray
   exact ⟨hg.os, hg.tape, hg.output, hg.size, fun k hk hne => hg.block k hk (fun e => hne (by injection e with e; subst e; rw [own_some]))⟩
end
attribute [local irreducible] nameS segsL sortZ segI segO hasP restP
structure FilesC where
  d : Option Addr
structure LogC where
  files : FilesC
theorem hasP_eq (s : ByteArray) : (decide ((4 : Int) ≤ ((s.size : Nat) : Int)) && decide (s.extract 0 4 = (⟨#[108, 111, 103, 46]⟩ : ByteArray))) = hasP s := by
 unfold hasP logB; have : decide ((4 : Int) ≤ ((s.size : Nat) : Int)) = decide (4 ≤ s.size) := by apply decide_eq_decide.2; omega
 rw [this]
theorem hasP_size {s : ByteArray} (h : hasP s = true) : 4 ≤ s.size := by unfold hasP at h; rw [Bool.and_eq_true] at h; exact of_decide_eq_true h.1
theorem names_may {room : Int} {pl : List PF} (h : PLOk room pl) {i : Nat} {s : ByteArray} (hs : (namesS pl)[i]? = some s) : s.size ≠ 0 ∧ s.size ≤ 32 := by
 have hm : s ∈ namesS pl := List.mem_of_getElem? hs; rw [namesS, sortN_mem.mem_iff] at hm; obtain ⟨f, hf, rfl⟩ := List.mem_map.1 hm; have := h.may f hf; simp only [mayN, Bool.and_eq_true, decide_eq_true_eq] at this; omega
theorem ty24 : Ty Tryz.prog 24 1 8 (.pointer none) false := ty_of (by kernel_rfl) (by kernel_rfl)
theorem en24 : Enters Tryz.prog 24 := enters_of Tryz.func24 rfl (by kernel_rfl)
theorem en43 : Enters Tryz.prog 43 := enters_of Tryz.func43 rfl (by kernel_rfl)
theorem en79 : Enters Tryz.prog 79 := enters_of Tryz.func79 rfl (by kernel_rfl)
theorem en83 : Enters Tryz.prog 83 := enters_of Tryz.func83 rfl (by kernel_rfl)
theorem en84 : Enters Tryz.prog 84 := enters_of Tryz.func84 rfl (by kernel_rfl)
theorem en85 : Enters Tryz.prog 85 := enters_of Tryz.func85 rfl (by kernel_rfl)
theorem en99 : Enters Tryz.prog 99 := enters_of Tryz.func99 rfl (by kernel_rfl)
theorem en116 : Enters Tryz.prog 116 := enters_of Tryz.func116 rfl (by kernel_rfl)
set_option maxRecDepth 100000 in
set_option maxHeartbeats 4000000 in
theorem segName_ (n : Int) (w : World) (hL : LaidOk w) :
  Calls Tryz.prog 43 #[.int .i64 (n)] w (Ret (fun v w' => v = .string (nameS n) ∧ Ext w w')) := by
 have hLs := hL.size; refine calls_run (n := 12) Tryz.func43 rfl rfl rfl <| Run.seq <| Run.region <| RL.val (x_assignS rfl) <| RL.nil <| Run.seq <| Run.seq <| Run.region ?_; refine RL.val (x_moveI rfl) <| RL.val (x_ltI rfl rfl) <| RL.val (x_moveB rfl) <| RL.gval (wantedF rfl rfl rfl rfl) (fun hg => (x_moveI rfl)) <| RL.gval (wantedF rfl rfl rfl rfl) (fun hg => (x_gtI (gvr hg) rfl)) <| RL.val (x_or rfl rfl rfl) <| RL.nil ?_; refine Run.cond rfl (fun hc8 => ?_) (fun hc8 => ?_)
 ·try simp only [br] at hc8
  refine Run.seq <| Run.region <| RL.val (x_assignS rfl) <| RL.nil <| Run.ret1 (v := .string (⟨#[]⟩)) Tryz.func43 rfl rfl ?_; exact ⟨_, rfl, by rw [name_no hc8], (Keeps.refl _ w)⟩
 ·try simp only [br] at hc8
  refine Run.skip <| Run.seq ?_; have hil := itoa_len (n := n) (by omega) (by omega); have hls : (⟨#[108, 111, 103, 46]⟩ : ByteArray).size = 4 := rfl; have his : (⟨(Lib.itoa n).toArray⟩ : ByteArray).size = (Lib.itoa n).length := rfl; refine Run.region <| RL.val (x_moveI rfl) <| RL.st rfl <| St1.call (vals := [.int .i64 (n)]) en79 rfl (itoa_ n _ (by omega) (by omega) hL.tab) ?_; rintro _ w_1 ⟨rfl, K_2⟩; replace hL := hL.ext K_2; have K0 := (K_2 : Ext w _); refine RL.val (x_addS rfl rfl (by omega)) <| RL.val (x_assignS rfl) <| RL.nil <| Run.ret1 (v := .string (⟨#[108, 111, 103, 46]⟩ ++ (⟨(Lib.itoa n).toArray⟩ : ByteArray))) Tryz.func43 rfl rfl ?_; exact ⟨_, rfl, by rw [name_yes (by omega)]; unfold logB; rfl, K0⟩
set_option maxRecDepth 100000 in
set_option maxHeartbeats 4000000 in
theorem hasPreL (s : ByteArray) (w : World) :
  Calls Tryz.prog 116 #[.string (s), .string (⟨#[108, 111, 103, 46]⟩)] w (Ret (fun v w' => v = .bool (hasP s) ∧ Ext w w')) := by
 refine calls_run (n := 18) Tryz.func116 rfl rfl rfl <| Run.seq <| Run.region <| RL.val (x_assignB rfl) <| RL.nil <| Run.seq <| Run.region <| RL.val (x_moveS rfl) ?_; refine RL.val (x_lenStr Tryz.underlying9 rfl) <| RL.val (x_moveS rfl) <| RL.val (litI (c := 4) (x_lenStr Tryz.underlying9 rfl) rfl) <| RL.val (x_geI rfl rfl) <| RL.val (x_moveB rfl) <| RL.gval (wantedT rfl rfl rfl rfl) (fun hg => (x_moveS rfl)) <| RL.gval (wantedT rfl rfl rfl rfl) (fun hg => (x_moveS rfl)) <| RL.gval (wantedT rfl rfl rfl rfl) (fun hg => (litI (c := 4) (x_lenStr Tryz.underlying9 (gvr hg)) rfl)) ?_; refine RL.gval (wantedT rfl rfl rfl rfl) (fun hg => (x_slStrTo (j := 4) Tryz.underlying9 (gvr hg) (gvr hg) (by simp only [br] at hg; omega))) <| RL.gval (wantedT rfl rfl rfl rfl) (fun hg => (x_moveS rfl)) <| RL.gval (wantedT rfl rfl rfl rfl) (fun hg => (x_eqS (gvr hg) (gvr hg))) <| RL.val (x_and rfl rfl rfl) <| RL.val (x_assignB rfl) <| RL.nil <| Run.ret1 (v := .bool ((decide (4 ≤ (((s).size : Nat) : Int))) && (decide (s.extract 0 4 = ⟨#[108, 111, 103, 46]⟩)))) Tryz.func116 rfl rfl ?_; exact ⟨_, rfl, by rw [hasP_eq], (Keeps.refl _ w)⟩
set_option maxRecDepth 100000 in
set_option maxHeartbeats 4000000 in
theorem cutPreL (s : ByteArray) (w : World) :
  Calls Tryz.prog 99 #[.string (s), .string (⟨#[108, 111, 103, 46]⟩)] w (Ret (fun v w' => (hasP s = true ∧ v = .tuple #[.string (restP s), .bool true] ∧ Ext w w') ∨ (hasP s = false ∧ v = .tuple #[.string s, .bool false] ∧ Ext w w'))) := by
 refine calls_run (n := 15) Tryz.func99 rfl rfl rfl <| Run.seq <| Run.region <| RL.val (x_assignS rfl) <| RL.val (x_assignB rfl) <| RL.nil <| Run.seq <| Run.seq ?_; refine Run.region <| RL.val (x_moveS rfl) <| RL.val (x_moveS rfl) <| RL.st rfl <| St1.call (vals := [.string (s), .string (⟨#[108, 111, 103, 46]⟩)]) en116 rfl (hasPreL s _) ?_; rintro _ w_1 ⟨rfl, K_2⟩; have K0 := (K_2 : Ext w _); refine RL.val (x_not rfl) <| RL.nil ?_; refine Run.cond rfl (fun hc9 => ?_) (fun hc9 => ?_)
 ·try simp only [br] at hc9
  refine Run.seq <| Run.region <| RL.val (x_moveS rfl) <| RL.val (x_assignS rfl) <| RL.val (x_assignB rfl) <| RL.nil <| Run.ret2 (v := .string (s)) (x := .bool (false)) Tryz.func99 rfl rfl rfl ?_; exact ⟨_, rfl, .inr ⟨by simpa using hc9, rfl, K0⟩⟩
 ·try simp only [br] at hc9
  refine Run.skip <| Run.seq ?_; have hPs := hasP_size (s := s) (by simpa using hc9); refine Run.region <| RL.val (x_moveS rfl) <| RL.val (x_moveS rfl) <| RL.val (litI (c := 4) (x_lenStr Tryz.underlying9 rfl) rfl) <| RL.val (x_slStrFrom (i := 4) Tryz.underlying9 rfl rfl (by omega)) <| RL.val (x_assignS rfl) <| RL.val (x_assignB rfl) <| RL.nil ?_; refine Run.ret2 (v := .string (s.extract 4 s.size)) (x := .bool (true)) Tryz.func99 rfl rfl rfl ?_; exact ⟨_, rfl, .inl ⟨by simpa using hc9, by unfold restP; rfl, K0⟩⟩
set_option maxRecDepth 100000 in
set_option maxHeartbeats 4000000 in
theorem cutPre_ (s : ByteArray) (w : World) :
  Calls Tryz.prog 83 #[.string (s), .string (⟨#[108, 111, 103, 46]⟩)] w (Ret (fun v w' => (hasP s = true ∧ v = .tuple #[.string (restP s), .bool true] ∧ Ext w w') ∨ (hasP s = false ∧ v = .tuple #[.string s, .bool false] ∧ Ext w w'))) := by
 refine calls_run (n := 11) Tryz.func83 rfl rfl rfl <| Run.seq <| Run.region <| RL.val (x_assignS rfl) <| RL.val (x_assignB rfl) <| RL.nil <| Run.seq <| Run.region ?_; refine RL.val (x_moveS rfl) <| RL.val (x_moveS rfl) <| RL.st rfl <| St1.call (vals := [.string (s), .string (⟨#[108, 111, 103, 46]⟩)]) en99 rfl (cutPreL s _) ?_; rintro _ wCp_1 hCp_1; rcases hCp_1 with hCp_1 | hCp_1
 ·obtain ⟨hPre, rfl, K_2⟩ := hCp_1
  have K0 := (K_2 : Ext w _); refine RL.val (x_extract rfl rfl) <| RL.val (x_extract rfl rfl) <| RL.val (x_assignS rfl) <| RL.val (x_assignB rfl) <| RL.nil <| Run.ret2 (v := .string (restP s)) (x := .bool (true)) Tryz.func83 rfl rfl rfl ?_; exact ⟨_, rfl, .inl ⟨hPre, rfl, K0⟩⟩
 ·obtain ⟨hPre, rfl, K_3⟩ := hCp_1
  have K0 := (K_3 : Ext w _); refine RL.val (x_extract rfl rfl) <| RL.val (x_extract rfl rfl) <| RL.val (x_assignS rfl) <| RL.val (x_assignB rfl) <| RL.nil <| Run.ret2 (v := .string (s)) (x := .bool (false)) Tryz.func83 rfl rfl rfl ?_; exact ⟨_, rfl, .inr ⟨hPre, rfl, K0⟩⟩
set_option maxRecDepth 100000 in
set_option maxHeartbeats 4000000 in
theorem segs_ (b d : Nat) (F : Nat → Prop) (room : Int) (pl : List PF) (w : World) (hb : Blk w b [.pointer (some ⟨d, 0, none⟩)] 42) (hD : DiskAt w d F room pl) (hbd : ¬ F b) (hL : LaidOk w) :
  Calls Tryz.prog 54 #[.pointer (some ⟨b, 0, none⟩)] w (Ret (fun v w' => ∃ a' c', v = .slice a' (segsL pl).length c' ∧ OwnSl w' 3 a' c' (segsL pl) ∧ (∀ q, own a' q → w.heap.size ≤ q) ∧ Ext w w')) := by
 have hLs := hL.size; have hok := hD.ok; have hlen := hok.len; have hsl := segsL_len pl; have hnl : (namesS pl).length ≤ 64 := by rw [namesS, sortN_mem.length_eq, List.length_map]; exact hlen
 refine calls_run (n := 58) Tryz.func54 rfl rfl rfl <| Run.seq <| Run.region <| RL.val (x_assignSl rfl) <| RL.nil <| Run.seq <| Run.seq <| Run.region ?_; refine RL.val (x_moveP rfl) <| RL.val (litF (x_ptrNil Tryz.underlying125 rfl rfl) rfl) <| RL.val (x_moveB rfl) <| RL.gst (wantedF1 rfl rfl rfl rfl) <| St1.val (x_moveP rfl) <| RL.gst (wantedF1 rfl rfl rfl rfl) <| St1.val (x_nilCheck rfl) <| RL.gst (wantedF1 rfl rfl rfl rfl) <| St1.val (x_fld (o' := 0) Tryz.underlying40 rfl ty24 rfl rfl rfl) <| RL.gst (wantedF1 rfl rfl rfl rfl) <| St1.val (x_ld (v := .pointer (some ⟨d, 0, none⟩)) ty24 rfl rfl (hb.cl.field (i := 0) rfl)) <| RL.gst (wantedF1 rfl rfl rfl rfl) <| St1.val (litF (x_ptrNil Tryz.underlying24 rfl rfl) rfl) ?_; refine RL.val (x_orF rfl rfl rfl) <| RL.nil <| Run.condF rfl <| Run.skip <| Run.seq <| Run.region <| RL.val (x_assignSl rfl) <| RL.nil ?_; refine Run.seq <| Run.seq <| Run.region <| RL.val (x_moveP rfl) <| RL.val (x_nilCheck rfl) <| RL.val (x_fld (o' := 0) Tryz.underlying40 rfl ty24 rfl rfl rfl) <| RL.val (x_ld (v := .pointer (some ⟨d, 0, none⟩)) ty24 rfl rfl (hb.cl.field (i := 0) rfl)) <| RL.st rfl <| St1.call (vals := [.pointer (some ⟨d, 0, none⟩)]) en24 rfl (filesD hD) ?_; rintro _ w_3 ⟨a_1, c_2, rfl, ho_4, hg_5, K_6⟩; clear hg_5; replace hb := hb.ext K_6; replace hD := hD.ext K_6; replace hL := hL.ext K_6; have K0 := (K_6 : Ext w _); refine RL.val (x_lenSl Tryz.underlying61 rfl) <| RL.val (x_moveI rfl) <| RL.nil <| Run.block ?_; refine Run.loop (ι := Nat) (fun i ρ' w' => ∃ az : Option Addr, ∃ cz : Nat, Holds ρ' [(3, .slice (az) ((segI ((namesS pl).take i)).length) (cz)), (23, .slice (a_1) ((namesS pl).length) (c_2)), (24, .int .i64 ((((namesS pl).length : Nat) : Int))), (25, .int .i64 (((i : Nat) : Int)))] ∧ Ext w w' ∧ (Blk w' b [.pointer (some ⟨d, 0, none⟩)] 42) ∧ (LaidOk w') ∧ (DiskAt w' d F room pl) ∧ (OwnSl w' 9 (a_1) (c_2) (namesS pl)) ∧ (OwnSl w' 3 az cz (segI ((namesS pl).take i))) ∧ (¬ own az b) ∧ (∀ q_, own az q_ → ¬ F q_) ∧ (∀ q_, own az q_ → ¬ own a_1 q_) ∧ (∀ q_, own az q_ → w.heap.size ≤ q_) ∧ (i ≤ (namesS pl).length)) (fun i => (namesS pl).length - i) 0 ?_ ?_
 ·rw [show segI ((namesS pl).take 0) = [] by rw [List.take_zero]; unfold segI; rfl]
  have ho_17 := OwnSl.nil (α := Int) w_3 3; refine ⟨_, _, ⟨rfl, rfl, rfl, rfl, trivial⟩, K0, hb, hL, hD, ho_4, ho_17, (own_none b), (fun q_ h1 _ => own_none q_ h1), (fun q_ h1 _ => own_none q_ h1), (fun q_ h1 => absurd h1 (own_none q_)), ?_⟩
  ·omega
 clear hb hD ho_4; clear K0; rintro i ρ_18 w_10 ⟨az, cz, hH_11, K0, hb, hL, hD, ho_4, ho_12, pr_13, pr_14, pr_15, pr_16, hi⟩ ih1; obtain ⟨ρ₀, rfl⟩ := hH_11.ex; clear hH_11; refine Run.seq <| Run.region <| RL.val (x_ltI rfl rfl) <| RL.nil <| Run.seq ?_; refine Run.cond rfl (fun hc26 => ?_) (fun hc26 => ?_)
 ·try simp only [br] at hc26
  refine Run.skip <| Run.seq <| Run.block <| Run.seq <| Run.region ?_; obtain ⟨b_19, o_20, s, hs, ha_21, hc_22⟩ := ho_4.sl.el (i := i) (by first | omega | (simp only [List.length_set]; omega)); refine RL.val (x_idxN Tryz.underlying61 ty9 rfl rfl ha_21 (by first | omega | (simp only [List.length_set]; omega))) <| RL.val (x_ldV (v := .string (s)) (y := s) ty9 rfl hc_22 rfl) <| RL.val (x_assignS rfl) <| RL.nil <| Run.seq ?_; have hsm := names_may hok hs; have hil := segI_len (namesS pl) i; have hrs := restP_size s; refine Run.region <| RL.val (x_moveS rfl) <| RL.st rfl <| St1.call (vals := [.string (s), .string (⟨#[108, 111, 103, 46]⟩)]) en83 rfl (cutPre_ s _) ?_; rintro _ wCp_25 hCp_25; rcases hCp_25 with hCp_25 | hCp_25
  ·obtain ⟨hPre, rfl, K_26⟩ := hCp_25
   replace hb := hb.ext K_26; replace hL := hL.ext K_26; replace hD := hD.ext K_26; replace ho_4 := ho_4.ext K_26; replace ho_12 := ho_12.ext K_26; replace K0 := K0.ext K_26; refine RL.val (x_moveT rfl) <| RL.val (x_extract rfl rfl) <| RL.val (x_extract rfl rfl) <| RL.val (x_assignS rfl) <| RL.val (x_assignB rfl) <| RL.nil <| Run.seq <| Run.region ?_; refine RL.val (x_moveS rfl) <| RL.st rfl <| St1.call (vals := [.string (restP s)]) en84 rfl (atoi_ (restP s) _ (by omega) hL) ?_; rintro _ wAt_27 hAt_27; rcases hAt_27 with hAt_27 | hAt_27
   ·obtain ⟨an, hAn, rfl, K_28⟩ := hAt_27
    replace hb := hb.ext K_28; replace hL := hL.ext K_28; replace hD := hD.ext K_28; replace ho_4 := ho_4.ext K_28; replace ho_12 := ho_12.ext K_28; replace K0 := K0.ext K_28; refine RL.val (x_moveT rfl) <| RL.val (x_extract rfl rfl) <| RL.val (x_extract rfl rfl) <| RL.val (x_assignI rfl) <| RL.val (x_assign (v := .nilIface) rfl) <| RL.nil <| Run.seq <| Run.region ?_; refine RL.val (x_moveB rfl) <| RL.val (x_moveB rfl) <| RL.gst (wantedT1 rfl rfl rfl rfl) <| St1.val (x_move (v := .nilIface) rfl) <| RL.gst (wantedT1 rfl rfl rfl rfl) <| St1.val (x_eqNN (by kernel_rfl) rfl rfl) <| RL.val (x_andT rfl rfl rfl) <| RL.val (x_moveB rfl) <| RL.gst (wantedT1 rfl rfl rfl rfl) <| St1.val (x_moveI rfl) <| RL.gst (wantedT1 rfl rfl rfl rfl) <| St1.call (vals := [.int .i64 (an)]) en43 rfl (segName_ an _ hL) ?_; rintro _ w_29 ⟨rfl, K_30⟩; replace hb := hb.ext K_30; replace hL := hL.ext K_30; replace hD := hD.ext K_30; replace ho_4 := ho_4.ext K_30; replace ho_12 := ho_12.ext K_30; replace K0 := K0.ext K_30; refine RL.gst (wantedT1 rfl rfl rfl rfl) <| St1.val (x_moveS rfl) <| RL.gst (wantedT1 rfl rfl rfl rfl) <| St1.val (x_eqS rfl rfl) <| RL.val (x_andT rfl rfl rfl) <| RL.nil ?_; refine Run.cond rfl (fun hc49 => ?_) (fun hc49 => ?_)
    ·try simp only [br] at hc49
     refine Run.region <| RL.val (x_moveSl rfl) <| RL.val (x_moveI rfl) <| RL.st rfl <| St1.buildSlice ([an] : List Int) Tryz.underlying47 ty3 rfl rfl (by first | decide | (simp [Enc.size])) ?_; intro b_31 w_32 hl_35 ho_34 K_33; clear hl_35; replace hb := hb.ext K_33; replace hL := hL.ext K_33; replace hD := hD.ext K_33; replace ho_4 := ho_4.ext K_33; replace ho_12 := ho_12.ext K_33; replace K0 := K0.ext K_33; refine RL.st rfl <| St1.append (xs := segI ((namesS pl).take i)) (ys := ([an] : List Int)) Tryz.underlying47 ty3 rfl rfl rfl ho_12 ho_34.sl (by first | omega | (simp only [lr]; omega)) (by decide) ?_; intro a_41 c_42 w_43 ho_44 K_45 hm_46 hrm_47; have pr_48 : ¬ own a_41 b := hm_46.not pr_13 hb.lt; have pr_49 : ∀ q_, own a_41 q_ → ¬ F q_ := hm_46.apart pr_14 hD.own_lt; have pr_50 : ∀ q_, own a_41 q_ → ¬ own a_1 q_ := hm_46.apart pr_15 ho_4.own_lt; have pg_52 : ∀ q_, own a_41 q_ → w.heap.size ≤ q_ := hm_46.ge pr_16 K0.size; replace hb := hb.keep K_45 pr_13; replace hL := hL.keep K_45 (fun q_ hq_ => Nat.le_trans hLs (pr_16 q_ hq_)); replace hD := hD.keepO K_45 (fun q_ h1 h2 => pr_14 q_ h2 h1); replace ho_4 := ho_4.keepO K_45 (fun q_ h1 h2 => pr_15 q_ h2 h1); replace K0 := K0.new K_45 pr_16; clear hm_46; clear hrm_47; refine RL.val (x_assignSl rfl) <| RL.nil <| Run.inBlock <| Run.region <| RL.val (litI (c := ((i + 1 : Nat) : Int)) (x_add rfl rfl (by omega) (by omega)) rfl) <| RL.val (x_moveI rfl) <| RL.nil ?_; have e := segI_yes hs (seg_yes hsm.1 hc49); refine ih1 (i + 1) _ _ ?_ (by omega); rw [e]; refine ⟨_, _, ⟨rfl, rfl, rfl, rfl, trivial⟩, K0, hb, hL, hD, ho_4, ho_44, pr_48, pr_49, pr_50, pg_52, ?_⟩
     ·omega
    ·try simp only [br] at hc49
     refine Run.skip <| Run.inBlock <| Run.region <| RL.val (litI (c := ((i + 1 : Nat) : Int)) (x_add rfl rfl (by omega) (by omega)) rfl) <| RL.val (x_moveI rfl) <| RL.nil ?_; have e := segI_no hs (seg_no_name hAn hc49); refine ih1 (i + 1) _ _ ?_ (by omega); rw [e]; refine ⟨_, _, ⟨rfl, rfl, rfl, rfl, trivial⟩, K0, hb, hL, hD, ho_4, ho_12, pr_13, pr_14, pr_15, pr_16, ?_⟩
     ·omega
   ·obtain ⟨hAn, en_, et_, ep_, rfl, K_53⟩ := hAt_27
    replace hb := hb.ext K_53; replace hL := hL.ext K_53; replace hD := hD.ext K_53; replace ho_4 := ho_4.ext K_53; replace ho_12 := ho_12.ext K_53; replace K0 := K0.ext K_53; refine RL.val (x_moveT rfl) <| RL.val (x_extract rfl rfl) <| RL.val (x_extract rfl rfl) <| RL.val (x_assignI rfl) <| RL.val (x_assign (v := .iface et_ (.pointer (ep_))) rfl) <| RL.nil <| Run.seq <| Run.region ?_; refine RL.val (x_moveB rfl) <| RL.val (x_moveB rfl) <| RL.gst (wantedT1 rfl rfl rfl rfl) <| St1.val (x_move (v := .iface et_ (.pointer (ep_))) rfl) <| RL.gst (wantedT1 rfl rfl rfl rfl) <| St1.val (x_eqIN (by kernel_rfl) rfl rfl) <| RL.val (x_andT rfl rfl rfl) <| RL.val (x_moveB rfl) <| RL.guardF (wantedT0 rfl rfl rfl rfl) <| RL.guardF (wantedT0 rfl rfl rfl rfl) ?_; refine RL.guardF (wantedT0 rfl rfl rfl rfl) <| RL.guardF (wantedT0 rfl rfl rfl rfl) <| RL.val (x_and (b := false) (e := false) rfl rfl rfl) <| RL.nil <| Run.condF rfl <| Run.skip <| Run.inBlock <| Run.region ?_; refine RL.val (litI (c := ((i + 1 : Nat) : Int)) (x_add rfl rfl (by omega) (by omega)) rfl) <| RL.val (x_moveI rfl) <| RL.nil ?_; have e := segI_no hs (seg_no_num hAn); refine ih1 (i + 1) _ _ ?_ (by omega); rw [e]; refine ⟨_, _, ⟨rfl, rfl, rfl, rfl, trivial⟩, K0, hb, hL, hD, ho_4, ho_12, pr_13, pr_14, pr_15, pr_16, ?_⟩
    ·omega
  ·obtain ⟨hPre, rfl, K_54⟩ := hCp_25
   replace hb := hb.ext K_54; replace hL := hL.ext K_54; replace hD := hD.ext K_54; replace ho_4 := ho_4.ext K_54; replace ho_12 := ho_12.ext K_54; replace K0 := K0.ext K_54; refine RL.val (x_moveT rfl) <| RL.val (x_extract rfl rfl) <| RL.val (x_extract rfl rfl) <| RL.val (x_assignS rfl) <| RL.val (x_assignB rfl) <| RL.nil <| Run.seq <| Run.region ?_; refine RL.val (x_moveS rfl) <| RL.st rfl <| St1.call (vals := [.string (s)]) en84 rfl (atoi_ s _ (by omega) hL) ?_; rintro _ wAt_55 hAt_55; rcases hAt_55 with hAt_55 | hAt_55
   ·obtain ⟨an, hAn, rfl, K_56⟩ := hAt_55
    replace hb := hb.ext K_56; replace hL := hL.ext K_56; replace hD := hD.ext K_56; replace ho_4 := ho_4.ext K_56; replace ho_12 := ho_12.ext K_56; replace K0 := K0.ext K_56; refine RL.val (x_moveT rfl) <| RL.val (x_extract rfl rfl) <| RL.val (x_extract rfl rfl) <| RL.val (x_assignI rfl) <| RL.val (x_assign (v := .nilIface) rfl) <| RL.nil <| Run.seq <| Run.region ?_; refine RL.val (x_moveB rfl) <| RL.val (x_moveB rfl) <| RL.guardF (wantedT0 rfl rfl rfl rfl) <| RL.guardF (wantedT0 rfl rfl rfl rfl) <| RL.val (x_and (b := false) (e := false) rfl rfl rfl) <| RL.val (x_moveB rfl) <| RL.guardF (wantedT0 rfl rfl rfl rfl) <| RL.guardF (wantedT0 rfl rfl rfl rfl) ?_; refine RL.guardF (wantedT0 rfl rfl rfl rfl) <| RL.guardF (wantedT0 rfl rfl rfl rfl) <| RL.val (x_and (b := false) (e := false) rfl rfl rfl) <| RL.nil <| Run.condF rfl <| Run.skip <| Run.inBlock <| Run.region ?_; refine RL.val (litI (c := ((i + 1 : Nat) : Int)) (x_add rfl rfl (by omega) (by omega)) rfl) <| RL.val (x_moveI rfl) <| RL.nil ?_; have e := segI_no hs (seg_no_pre hPre); refine ih1 (i + 1) _ _ ?_ (by omega); rw [e]; refine ⟨_, _, ⟨rfl, rfl, rfl, rfl, trivial⟩, K0, hb, hL, hD, ho_4, ho_12, pr_13, pr_14, pr_15, pr_16, ?_⟩
    ·omega
   ·obtain ⟨hAn, en_, et_, ep_, rfl, K_57⟩ := hAt_55
    replace hb := hb.ext K_57; replace hL := hL.ext K_57; replace hD := hD.ext K_57; replace ho_4 := ho_4.ext K_57; replace ho_12 := ho_12.ext K_57; replace K0 := K0.ext K_57; refine RL.val (x_moveT rfl) <| RL.val (x_extract rfl rfl) <| RL.val (x_extract rfl rfl) <| RL.val (x_assignI rfl) <| RL.val (x_assign (v := .iface et_ (.pointer (ep_))) rfl) <| RL.nil <| Run.seq <| Run.region ?_; refine RL.val (x_moveB rfl) <| RL.val (x_moveB rfl) <| RL.guardF (wantedT0 rfl rfl rfl rfl) <| RL.guardF (wantedT0 rfl rfl rfl rfl) <| RL.val (x_and (b := false) (e := false) rfl rfl rfl) <| RL.val (x_moveB rfl) <| RL.guardF (wantedT0 rfl rfl rfl rfl) <| RL.guardF (wantedT0 rfl rfl rfl rfl) ?_; refine RL.guardF (wantedT0 rfl rfl rfl rfl) <| RL.guardF (wantedT0 rfl rfl rfl rfl) <| RL.val (x_and (b := false) (e := false) rfl rfl rfl) <| RL.nil <| Run.condF rfl <| Run.skip <| Run.inBlock <| Run.region ?_; refine RL.val (litI (c := ((i + 1 : Nat) : Int)) (x_add rfl rfl (by omega) (by omega)) rfl) <| RL.val (x_moveI rfl) <| RL.nil ?_; have e := segI_no hs (seg_no_pre hPre); refine ih1 (i + 1) _ _ ?_ (by omega); rw [e]; refine ⟨_, _, ⟨rfl, rfl, rfl, rfl, trivial⟩, K0, hb, hL, hD, ho_4, ho_12, pr_13, pr_14, pr_15, pr_16, ?_⟩
    ·omega
 ·try simp only [br] at hc26
  refine Run.exit rfl <| Run.seq ?_; have hil := segI_len (namesS pl) i; refine Run.region <| RL.val (x_moveSl rfl) <| RL.st rfl <| St1.call (vals := [.slice (az) ((segI ((namesS pl).take i)).length) (cz)]) en85 rfl (sortMI ho_12 (by omega)) ?_; rintro _ w_58 ⟨rfl, ho_59, K_60⟩; replace hb := hb.keep K_60 pr_13; replace hL := hL.keep K_60 (fun q_ hq_ => Nat.le_trans hLs (pr_16 q_ hq_)); replace hD := hD.keepO K_60 (fun q_ h1 h2 => pr_14 q_ h2 h1); replace K0 := K0.new K_60 pr_16; replace ho_12 := ho_59; clear ho_59; refine RL.nil <| Run.seq <| Run.region <| RL.val (x_moveSl rfl) <| RL.val (x_assignSl rfl) <| RL.nil <| Run.ret1 (v := .slice (az) ((segI ((namesS pl).take i)).length) (cz)) Tryz.func54 rfl rfl ?_; have hie : i = (namesS pl).length := by omega
  subst hie; rw [List.take_length] at ho_12; have e_ : sortZ (segI (namesS pl)) = segsL pl := by unfold segsL; rfl
  have e2_ : (segI ((namesS pl).take (namesS pl).length)).length = (segsL pl).length := by rw [List.take_length, ← e_, (sortZ_perm _).length_eq]
  rw [e_] at ho_12; rw [e2_]; exact ⟨_, rfl, az, cz, rfl, ho_12, pr_16, K0⟩
end Go.Proofs.YtlhepanmdchjoaaGreatDoor
