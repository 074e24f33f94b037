import Derived.Shelf.Strings.Builder1
import Derived.Shelf.Strings.Builder2
import Derived.Shelf.Strings.OnBuilder
import Derived.Shelf.Utf8.RuneCount
import Derived.Shelf.Strconv.Atoi
import Derived.Shelf.Strconv.Itoa0
import Derived.Shelf.Strconv.Itoa1
import Derived.Shelf.LaysM
import Derived.Shelf.Strconv.Itoa2
import Derived.Shelf.Strconv.Itoa3
import Derived.Shelf.Strconv.AtoiErrFast
import Derived.Shelf.Strconv.ParseIntEmpty
import Derived.Shelf.Strconv.AtoiFail
import Derived.Shelf.Strconv.Clone
import Derived.Shelf.Strconv.SyntaxError
import Derived.Shelf.LaysC
import Derived.Shelf.Strconv.ToError
import Derived.Shelf.Strconv.Lower
import Derived.Shelf.Strconv.ParseUint10
import Derived.Shelf.Strconv.ParseUint10Empty
import Derived.Shelf.Strconv.ParseUint10Any
import Derived.Shelf.Strconv.ParseInt10
import Derived.Shelf.Strconv.AtoiLong
import Derived.Shelf.Strconv.AtoiInnerAll
import Derived.Shelf.Strconv.RangeError
import Derived.Shelf.Strconv.ToErrorRange
import Derived.Shelf.Strconv.AtoiAll
import Derived.Shelf.Strconv.ParseUintEmpty
import Derived.Shelf.Strconv.ParseUint10b64
import Derived.Shelf.Strconv.ParseUint10b32
import Derived.Shelf.Strconv.ParseUint10b16
import Derived.Shelf.Strconv.ParseUint10b8
import Derived.Shelf.Strconv.ParseUint10At
import Derived.Shelf.Strconv.ParseInt10At64
import Derived.Shelf.Strconv.ParseInt10At32
import Derived.Shelf.Strconv.ParseInt10At16
import Derived.Shelf.Strconv.ParseInt10At8
import Derived.Shelf.Strconv.ParseInt10All
import Derived.Shelf.Strings.Search1
import Derived.Shelf.Strings.Search2
import Derived.Shelf.Strings.Search3
import Derived.Shelf.Strings.Cut
import Derived.Shelf.Strings.Count
import Derived.Shelf.Strings.Shaped
import Derived.Shelf.Strings.Split
import Derived.Shelf.Strings.SplitShaped
import Derived.Shelf.Unicode.Decode
import Derived.Shelf.Strings.RuneCount
import Derived.Shelf.Strings.Explode
import Derived.Shelf.Unicode.DecodeSlow
import Derived.Shelf.Unicode.DecodeAny
import Derived.Ground.Names2Prog
import Derived.Shelf.Slices.Clone
import Derived.Ground.SlgnProg
import Derived.Shelf.SlicesE.Clone
import Derived.Test.YtockodmbhnlheaaGreatDoorAT
import Derived.Lib.AppendIntMem
import Derived.Lib.AtoiErrMem
import Derived.Lib.ParseIntBTie
import Derived.LoopTactic
namespace Go.Proofs.YtockodmbhnlheaaGreatDoor
section
open Go.Shelf
def Tryz.lays156_ren:Go.Shelf.Ren:=⟨fun | 156=>40 | 165=>59 | 166=>60 | 169=>61 | 240=>77 | 241=>78 | 276=>112 | 277=>113 | n=>n,fun | 31=>91 | 9=>9 | 3=>3 | 4=>4 | 0=>0 | 20=>20 | 72=>118 | 76=>122 | 70=>116 | 37=>28 | 75=>121 | 127=>136 | 164=>177 | 5=>5 | 80=>124 | n=>n,fun | n=>n⟩
theorem Tryz.lays156:Go.Proofs.Lays.n156 Tryz.prog Tryz.lays156_ren:={
 mixed:=by kernel_rfl
 f156:=Tryz.func40.trans (congrArg some (by kernel_rfl))
 f165:=Tryz.func59.trans (congrArg some (by kernel_rfl))
 f166:=Tryz.func60.trans (congrArg some (by kernel_rfl))
 f169:=Tryz.func61.trans (congrArg some (by kernel_rfl))
 f240:=Tryz.func77.trans (congrArg some (by kernel_rfl))
 f241:=Tryz.func78.trans (congrArg some (by kernel_rfl))
 f276:=Tryz.func112.trans (congrArg some (by kernel_rfl))
 f277:=Tryz.func113.trans (congrArg some (by kernel_rfl))
 t0:=Tryz.underlying0
 a0:=Tryz.isAgg0
 z0:=Tryz.sizeOf0
 v0:=Tryz.zeroValue0
 t3:=Tryz.underlying3
 a3:=Tryz.isAgg3
 z3:=Tryz.sizeOf3
 v3:=Tryz.zeroValue3
 t4:=Tryz.underlying4
 a4:=Tryz.isAgg4
 z4:=Tryz.sizeOf4
 v4:=Tryz.zeroValue4
 t9:=Tryz.underlying9
 a9:=Tryz.isAgg9
 z9:=Tryz.sizeOf9
 v9:=Tryz.zeroValue9
 t20:=Tryz.underlying20
 a20:=Tryz.isAgg20
 z20:=Tryz.sizeOf20
 v20:=Tryz.zeroValue20
 t31:=Tryz.underlying91
 a31:=Tryz.isAgg91
 z31:=Tryz.sizeOf91
 v31:=Tryz.zeroValue91
 t37:=Tryz.underlying28
 a37:=Tryz.isAgg28
 z37:=Tryz.sizeOf28
 v37:=Tryz.zeroValue28
 t70:=Tryz.underlying116
 a70:=Tryz.isAgg116
 z70:=Tryz.sizeOf116
 v70:=Tryz.zeroValue116
 t72:=Tryz.underlying118
 a72:=Tryz.isAgg118
 z72:=Tryz.sizeOf118
 v72:=Tryz.zeroValue118
 t75:=Tryz.underlying121
 a75:=Tryz.isAgg121
 z75:=Tryz.sizeOf121
 v75:=Tryz.zeroValue121
 t76:=Tryz.underlying122
 a76:=Tryz.isAgg122
 z76:=Tryz.sizeOf122
 v76:=Tryz.zeroValue122
 t127:=Tryz.underlying136
 a127:=Tryz.isAgg136
 z127:=Tryz.sizeOf136
 v127:=Tryz.zeroValue136
 t164:=Tryz.underlying177
 a164:=Tryz.isAgg177
 z164:=Tryz.sizeOf177
 v164:=Tryz.zeroValue177 }
theorem Tryz.Builder_Extra_156:Builder.Extra Tryz.prog Tryz.lays156_ren:={
 sizeBuilder:=by kernel_rfl
 liesBuilder:=by kernel_rfl
 t5:=Tryz.underlying5
 a5:=Tryz.isAgg5
 z5:=Tryz.sizeOf5
 v5:=Tryz.zeroValue5
 infoByte:=by kernel_rfl
 cellsByte:=by kernel_rfl
 sizeByte:=by kernel_rfl
 neB5:=by decide }
open Go.RowKit in
def Tryz.laysM171_ren:Go.Shelf.Ren:=⟨fun | 171=>38 | 243=>58 | 246=>76 | 283=>108 | 284=>109 | 285=>110 | 286=>111 | 129=>146 | 317=>145 | 318=>147 | 319=>148 | 320=>149 | 337=>165 | 338=>166 | n=>n,fun | 3=>3 | 9=>9 | 2=>2 | 4=>4 | 171=>171 | 0=>0 | 53=>172 | 37=>28 | 5=>5 | 173=>175 | 212=>220 | 51=>180 | 20=>20 | 213=>221 | 46=>139 | 232=>253 | 233=>254 | n=>n,fun | 17=>1 | 18=>6 | 19=>7 | n=>n⟩
theorem Tryz.laysM171:Go.Proofs.LaysM.n171 Tryz.prog Tryz.laysM171_ren:={
 mixed:=by kernel_rfl
 f129:=Tryz.func146.trans (congrArg some (by kernel_rfl))
 f171:=Tryz.func38.trans (congrArg some (by kernel_rfl))
 f243:=Tryz.func58.trans (congrArg some (by kernel_rfl))
 f246:=Tryz.func76.trans (congrArg some (by kernel_rfl))
 f283:=Tryz.func108.trans (congrArg some (by kernel_rfl))
 f284:=Tryz.func109.trans (congrArg some (by kernel_rfl))
 f285:=Tryz.func110.trans (congrArg some (by kernel_rfl))
 f286:=Tryz.func111.trans (congrArg some (by kernel_rfl))
 f317:=Tryz.func145.trans (congrArg some (by kernel_rfl))
 f318:=Tryz.func147.trans (congrArg some (by kernel_rfl))
 f319:=Tryz.func148.trans (congrArg some (by kernel_rfl))
 f320:=Tryz.func149.trans (congrArg some (by kernel_rfl))
 f337:=Tryz.func165.trans (congrArg some (by kernel_rfl))
 f338:=Tryz.func166.trans (congrArg some (by kernel_rfl))
 t0:=Tryz.underlying0
 a0:=Tryz.isAgg0
 z0:=Tryz.sizeOf0
 v0:=Tryz.zeroValue0
 t2:=Tryz.underlying2
 a2:=Tryz.isAgg2
 z2:=Tryz.sizeOf2
 v2:=Tryz.zeroValue2
 t3:=Tryz.underlying3
 a3:=Tryz.isAgg3
 z3:=Tryz.sizeOf3
 v3:=Tryz.zeroValue3
 t4:=Tryz.underlying4
 a4:=Tryz.isAgg4
 z4:=Tryz.sizeOf4
 v4:=Tryz.zeroValue4
 t5:=Tryz.underlying5
 a5:=Tryz.isAgg5
 z5:=Tryz.sizeOf5
 v5:=Tryz.zeroValue5
 t9:=Tryz.underlying9
 a9:=Tryz.isAgg9
 z9:=Tryz.sizeOf9
 v9:=Tryz.zeroValue9
 t20:=Tryz.underlying20
 a20:=Tryz.isAgg20
 z20:=Tryz.sizeOf20
 v20:=Tryz.zeroValue20
 t37:=Tryz.underlying28
 a37:=Tryz.isAgg28
 z37:=Tryz.sizeOf28
 v37:=Tryz.zeroValue28
 t46:=Tryz.underlying139
 a46:=Tryz.isAgg139
 z46:=Tryz.sizeOf139
 v46:=Tryz.zeroValue139
 t51:=Tryz.underlying180
 a51:=Tryz.isAgg180
 z51:=Tryz.sizeOf180
 v51:=Tryz.zeroValue180
 t53:=Tryz.underlying172
 a53:=Tryz.isAgg172
 z53:=Tryz.sizeOf172
 v53:=Tryz.zeroValue172
 t171:=Tryz.underlying171
 a171:=Tryz.isAgg171
 z171:=Tryz.sizeOf171
 v171:=Tryz.zeroValue171
 t173:=Tryz.underlying175
 a173:=Tryz.isAgg175
 z173:=Tryz.sizeOf175
 v173:=Tryz.zeroValue175
 t212:=Tryz.underlying220
 a212:=Tryz.isAgg220
 z212:=Tryz.sizeOf220
 v212:=Tryz.zeroValue220
 t213:=Tryz.underlying221
 a213:=Tryz.isAgg221
 z213:=Tryz.sizeOf221
 t232:=Tryz.underlying253
 a232:=Tryz.isAgg253
 z232:=Tryz.sizeOf253
 v232:=Tryz.zeroValue253
 t233:=Tryz.underlying254
 a233:=Tryz.isAgg254
 z233:=Tryz.sizeOf254
 v233:=Tryz.zeroValue254
 g17:=by kernel_rfl
 g18:=by kernel_rfl
 g19:=by kernel_rfl
 i0:=by kernel_rfl
 i2:=by kernel_rfl
 i3:=by kernel_rfl
 i4:=by kernel_rfl
 i5:=by kernel_rfl
 i9:=by kernel_rfl
 i20:=by kernel_rfl
 i37:=by kernel_rfl
 i46:=by kernel_rfl
 i51:=by kernel_rfl
 i53:=by kernel_rfl
 i171:=by kernel_rfl
 i173:=by kernel_rfl
 i212:=by kernel_rfl
 i232:=by kernel_rfl
 i233:=by kernel_rfl
 m17:=by kernel_rfl
 m18:=by kernel_rfl
 m19:=by kernel_rfl }
open Go.RowKit Go.Sort Go.Lib in
def Tryz.laysC172_ren:Go.Shelf.Ren:=⟨fun | 172=>64 | 244=>86 | 245=>87 | 247=>119 | 279=>120 | 280=>121 | 281=>122 | 282=>123 | 287=>151 | 316=>152 | 171=>38 | 205=>153 | 321=>167 | 322=>168 | 243=>58 | 246=>76 | 283=>108 | 284=>109 | 285=>110 | 286=>111 | 129=>146 | 317=>145 | 318=>147 | 319=>148 | 320=>149 | 337=>165 | 338=>166 | n=>n,fun | 9=>9 | 3=>3 | 75=>121 | 76=>122 | 4=>4 | 5=>5 | 167=>186 | 37=>28 | 0=>0 | 85=>187 | 2=>2 | 168=>189 | 53=>172 | 175=>223 | 46=>139 | 210=>227 | 127=>136 | 145=>250 | 143=>248 | 21=>21 | 171=>171 | 173=>175 | 212=>220 | 51=>180 | 20=>20 | 213=>221 | 232=>253 | 233=>254 | 80=>124 | n=>n,fun | 15=>2 | 16=>3 | 17=>1 | 18=>6 | 19=>7 | n=>n⟩
theorem Tryz.laysC172:Go.Proofs.LaysC.n172 Tryz.prog Tryz.laysC172_ren:={
 mixed:=by kernel_rfl
 f129:=Tryz.func146.trans (congrArg some (by kernel_rfl))
 f171:=Tryz.func38.trans (congrArg some (by kernel_rfl))
 f172:=Tryz.func64.trans (congrArg some (by kernel_rfl))
 f205:=Tryz.func153.trans (congrArg some (by kernel_rfl))
 f243:=Tryz.func58.trans (congrArg some (by kernel_rfl))
 f244:=Tryz.func86.trans (congrArg some (by kernel_rfl))
 f245:=Tryz.func87.trans (congrArg some (by kernel_rfl))
 f246:=Tryz.func76.trans (congrArg some (by kernel_rfl))
 f247:=Tryz.func119.trans (congrArg some (by kernel_rfl))
 f279:=Tryz.func120.trans (congrArg some (by kernel_rfl))
 f280:=Tryz.func121.trans (congrArg some (by kernel_rfl))
 f281:=Tryz.func122.trans (congrArg some (by kernel_rfl))
 f282:=Tryz.func123.trans (congrArg some (by kernel_rfl))
 f283:=Tryz.func108.trans (congrArg some (by kernel_rfl))
 f284:=Tryz.func109.trans (congrArg some (by kernel_rfl))
 f285:=Tryz.func110.trans (congrArg some (by kernel_rfl))
 f286:=Tryz.func111.trans (congrArg some (by kernel_rfl))
 f287:=Tryz.func151.trans (congrArg some (by kernel_rfl))
 f316:=Tryz.func152.trans (congrArg some (by kernel_rfl))
 f317:=Tryz.func145.trans (congrArg some (by kernel_rfl))
 f318:=Tryz.func147.trans (congrArg some (by kernel_rfl))
 f319:=Tryz.func148.trans (congrArg some (by kernel_rfl))
 f320:=Tryz.func149.trans (congrArg some (by kernel_rfl))
 f321:=Tryz.func167.trans (congrArg some (by kernel_rfl))
 f322:=Tryz.func168.trans (congrArg some (by kernel_rfl))
 f337:=Tryz.func165.trans (congrArg some (by kernel_rfl))
 f338:=Tryz.func166.trans (congrArg some (by kernel_rfl))
 t0:=Tryz.underlying0
 a0:=Tryz.isAgg0
 z0:=Tryz.sizeOf0
 v0:=Tryz.zeroValue0
 t2:=Tryz.underlying2
 a2:=Tryz.isAgg2
 z2:=Tryz.sizeOf2
 v2:=Tryz.zeroValue2
 t3:=Tryz.underlying3
 a3:=Tryz.isAgg3
 z3:=Tryz.sizeOf3
 v3:=Tryz.zeroValue3
 t4:=Tryz.underlying4
 a4:=Tryz.isAgg4
 z4:=Tryz.sizeOf4
 v4:=Tryz.zeroValue4
 t5:=Tryz.underlying5
 a5:=Tryz.isAgg5
 z5:=Tryz.sizeOf5
 v5:=Tryz.zeroValue5
 t9:=Tryz.underlying9
 a9:=Tryz.isAgg9
 z9:=Tryz.sizeOf9
 v9:=Tryz.zeroValue9
 t20:=Tryz.underlying20
 a20:=Tryz.isAgg20
 z20:=Tryz.sizeOf20
 v20:=Tryz.zeroValue20
 t21:=Tryz.underlying21
 a21:=Tryz.isAgg21
 z21:=Tryz.sizeOf21
 v21:=Tryz.zeroValue21
 t37:=Tryz.underlying28
 a37:=Tryz.isAgg28
 z37:=Tryz.sizeOf28
 v37:=Tryz.zeroValue28
 t46:=Tryz.underlying139
 a46:=Tryz.isAgg139
 z46:=Tryz.sizeOf139
 v46:=Tryz.zeroValue139
 t51:=Tryz.underlying180
 a51:=Tryz.isAgg180
 z51:=Tryz.sizeOf180
 v51:=Tryz.zeroValue180
 t53:=Tryz.underlying172
 a53:=Tryz.isAgg172
 z53:=Tryz.sizeOf172
 v53:=Tryz.zeroValue172
 t75:=Tryz.underlying121
 a75:=Tryz.isAgg121
 z75:=Tryz.sizeOf121
 v75:=Tryz.zeroValue121
 t76:=Tryz.underlying122
 a76:=Tryz.isAgg122
 z76:=Tryz.sizeOf122
 v76:=Tryz.zeroValue122
 t85:=Tryz.underlying187
 a85:=Tryz.isAgg187
 z85:=Tryz.sizeOf187
 v85:=Tryz.zeroValue187
 t127:=Tryz.underlying136
 a127:=Tryz.isAgg136
 z127:=Tryz.sizeOf136
 v127:=Tryz.zeroValue136
 t143:=Tryz.underlying248
 a143:=Tryz.isAgg248
 z143:=Tryz.sizeOf248
 v143:=Tryz.zeroValue248
 t145:=Tryz.underlying250
 a145:=Tryz.isAgg250
 z145:=Tryz.sizeOf250
 v145:=Tryz.zeroValue250
 t167:=Tryz.underlying186
 a167:=Tryz.isAgg186
 z167:=Tryz.sizeOf186
 v167:=Tryz.zeroValue186
 t168:=Tryz.underlying189
 a168:=Tryz.isAgg189
 z168:=Tryz.sizeOf189
 v168:=Tryz.zeroValue189
 t171:=Tryz.underlying171
 a171:=Tryz.isAgg171
 z171:=Tryz.sizeOf171
 v171:=Tryz.zeroValue171
 t173:=Tryz.underlying175
 a173:=Tryz.isAgg175
 z173:=Tryz.sizeOf175
 v173:=Tryz.zeroValue175
 t175:=Tryz.underlying223
 a175:=Tryz.isAgg223
 z175:=Tryz.sizeOf223
 v175:=Tryz.zeroValue223
 t210:=Tryz.underlying227
 a210:=Tryz.isAgg227
 z210:=Tryz.sizeOf227
 v210:=Tryz.zeroValue227
 t212:=Tryz.underlying220
 a212:=Tryz.isAgg220
 z212:=Tryz.sizeOf220
 v212:=Tryz.zeroValue220
 t213:=Tryz.underlying221
 a213:=Tryz.isAgg221
 z213:=Tryz.sizeOf221
 t232:=Tryz.underlying253
 a232:=Tryz.isAgg253
 z232:=Tryz.sizeOf253
 v232:=Tryz.zeroValue253
 t233:=Tryz.underlying254
 a233:=Tryz.isAgg254
 z233:=Tryz.sizeOf254
 v233:=Tryz.zeroValue254
 g15:=by kernel_rfl
 g16:=by kernel_rfl
 g17:=by kernel_rfl
 g18:=by kernel_rfl
 g19:=by kernel_rfl
 t80:=Tryz.underlying124
 a80:=Tryz.isAgg124
 z80:=Tryz.sizeOf124
 v80:=Tryz.zeroValue124
 i0:=by kernel_rfl
 i2:=by kernel_rfl
 i3:=by kernel_rfl
 i4:=by kernel_rfl
 i5:=by kernel_rfl
 i9:=by kernel_rfl
 i20:=by kernel_rfl
 i21:=by kernel_rfl
 i37:=by kernel_rfl
 i46:=by kernel_rfl
 i51:=by kernel_rfl
 i53:=by kernel_rfl
 i75:=by kernel_rfl
 i76:=by kernel_rfl
 i80:=by kernel_rfl
 i85:=by kernel_rfl
 i127:=by kernel_rfl
 i143:=by kernel_rfl
 i145:=by kernel_rfl
 i167:=by kernel_rfl
 i168:=by kernel_rfl
 i171:=by kernel_rfl
 i173:=by kernel_rfl
 i175:=by kernel_rfl
 i210:=by kernel_rfl
 i212:=by kernel_rfl
 i232:=by kernel_rfl
 i233:=by kernel_rfl
 m15:=by kernel_rfl
 m16:=by kernel_rfl
 m17:=by kernel_rfl
 m18:=by kernel_rfl
 m19:=by kernel_rfl
 c0:=by kernel_rfl
 c2:=by kernel_rfl
 c3:=by kernel_rfl
 c4:=by kernel_rfl
 c5:=by kernel_rfl
 c9:=by kernel_rfl
 c20:=by kernel_rfl
 c21:=by kernel_rfl
 c37:=by kernel_rfl
 c46:=by kernel_rfl
 c51:=by kernel_rfl
 c53:=by kernel_rfl
 c75:=by kernel_rfl
 c76:=by kernel_rfl
 c80:=by kernel_rfl
 c85:=by kernel_rfl
 c127:=by kernel_rfl
 c143:=by kernel_rfl
 c145:=by kernel_rfl
 c167:=by kernel_rfl
 c168:=by kernel_rfl
 c171:=by kernel_rfl
 c173:=by kernel_rfl
 c175:=by kernel_rfl
 c210:=by kernel_rfl
 c212:=by kernel_rfl
 c213:=by kernel_rfl
 c232:=by kernel_rfl
 c233:=by kernel_rfl }
open Go.RowKit in
def Tryz.lays145_ren:Go.Shelf.Ren:=⟨fun | 145=>24 | 220=>42 | 219=>62 | 217=>79 | 225=>80 | 224=>81 | 267=>82 | 266=>114 | 314=>115 | n=>n,fun | 9=>9 | 4=>4 | 59=>66 | 3=>3 | 5=>5 | 46=>139 | 146=>181 | 51=>180 | n=>n,fun | 1=>0 | n=>n⟩
theorem Tryz.lays145:Go.Proofs.Lays.n145 Tryz.prog Tryz.lays145_ren:={
 mixed:=by kernel_rfl
 f145:=Tryz.func24.trans (congrArg some (by kernel_rfl))
 f217:=Tryz.func79.trans (congrArg some (by kernel_rfl))
 f219:=Tryz.func62.trans (congrArg some (by kernel_rfl))
 f220:=Tryz.func42.trans (congrArg some (by kernel_rfl))
 f224:=Tryz.func81.trans (congrArg some (by kernel_rfl))
 f225:=Tryz.func80.trans (congrArg some (by kernel_rfl))
 f266:=Tryz.func114.trans (congrArg some (by kernel_rfl))
 f267:=Tryz.func82.trans (congrArg some (by kernel_rfl))
 f314:=Tryz.func115.trans (congrArg some (by kernel_rfl))
 t3:=Tryz.underlying3
 a3:=Tryz.isAgg3
 z3:=Tryz.sizeOf3
 v3:=Tryz.zeroValue3
 t4:=Tryz.underlying4
 a4:=Tryz.isAgg4
 z4:=Tryz.sizeOf4
 v4:=Tryz.zeroValue4
 t5:=Tryz.underlying5
 a5:=Tryz.isAgg5
 z5:=Tryz.sizeOf5
 v5:=Tryz.zeroValue5
 t9:=Tryz.underlying9
 a9:=Tryz.isAgg9
 z9:=Tryz.sizeOf9
 v9:=Tryz.zeroValue9
 t46:=Tryz.underlying139
 a46:=Tryz.isAgg139
 z46:=Tryz.sizeOf139
 v46:=Tryz.zeroValue139
 t51:=Tryz.underlying180
 a51:=Tryz.isAgg180
 z51:=Tryz.sizeOf180
 v51:=Tryz.zeroValue180
 t59:=Tryz.underlying66
 a59:=Tryz.isAgg66
 z59:=Tryz.sizeOf66
 v59:=Tryz.zeroValue66
 t146:=Tryz.underlying181
 a146:=Tryz.isAgg181
 z146:=Tryz.sizeOf181
 v146:=Tryz.zeroValue181
 g1:=by kernel_rfl }
open Go.RowKit Go.Lib in
def Tryz.lays146_ren:Go.Shelf.Ren:=⟨fun | 146=>44 | 221=>63 | 268=>83 | 138=>84 | 143=>85 | 195=>116 | 197=>117 | 218=>118 | 219=>62 | 260=>150 | 217=>79 | 225=>80 | 224=>81 | 267=>82 | 266=>114 | 314=>115 | n=>n,fun | 9=>9 | 31=>91 | 3=>3 | 4=>4 | 0=>0 | 105=>184 | 21=>21 | 5=>5 | 46=>139 | 119=>242 | 139=>245 | 138=>244 | 146=>181 | 51=>180 | n=>n,fun | 1=>0 | 3=>4 | 4=>5 | n=>n⟩
theorem Tryz.lays146:Go.Proofs.Lays.n146 Tryz.prog Tryz.lays146_ren:={
 mixed:=by kernel_rfl
 f138:=Tryz.func84.trans (congrArg some (by kernel_rfl))
 f143:=Tryz.func85.trans (congrArg some (by kernel_rfl))
 f146:=Tryz.func44.trans (congrArg some (by kernel_rfl))
 f195:=Tryz.func116.trans (congrArg some (by kernel_rfl))
 f197:=Tryz.func117.trans (congrArg some (by kernel_rfl))
 f217:=Tryz.func79.trans (congrArg some (by kernel_rfl))
 f218:=Tryz.func118.trans (congrArg some (by kernel_rfl))
 f219:=Tryz.func62.trans (congrArg some (by kernel_rfl))
 f221:=Tryz.func63.trans (congrArg some (by kernel_rfl))
 f224:=Tryz.func81.trans (congrArg some (by kernel_rfl))
 f225:=Tryz.func80.trans (congrArg some (by kernel_rfl))
 f260:=Tryz.func150.trans (congrArg some (by kernel_rfl))
 f266:=Tryz.func114.trans (congrArg some (by kernel_rfl))
 f267:=Tryz.func82.trans (congrArg some (by kernel_rfl))
 f268:=Tryz.func83.trans (congrArg some (by kernel_rfl))
 f314:=Tryz.func115.trans (congrArg some (by kernel_rfl))
 t0:=Tryz.underlying0
 a0:=Tryz.isAgg0
 z0:=Tryz.sizeOf0
 v0:=Tryz.zeroValue0
 t3:=Tryz.underlying3
 a3:=Tryz.isAgg3
 z3:=Tryz.sizeOf3
 v3:=Tryz.zeroValue3
 t4:=Tryz.underlying4
 a4:=Tryz.isAgg4
 z4:=Tryz.sizeOf4
 v4:=Tryz.zeroValue4
 t5:=Tryz.underlying5
 a5:=Tryz.isAgg5
 z5:=Tryz.sizeOf5
 v5:=Tryz.zeroValue5
 t9:=Tryz.underlying9
 a9:=Tryz.isAgg9
 z9:=Tryz.sizeOf9
 v9:=Tryz.zeroValue9
 t21:=Tryz.underlying21
 a21:=Tryz.isAgg21
 z21:=Tryz.sizeOf21
 v21:=Tryz.zeroValue21
 t31:=Tryz.underlying91
 a31:=Tryz.isAgg91
 z31:=Tryz.sizeOf91
 v31:=Tryz.zeroValue91
 t46:=Tryz.underlying139
 a46:=Tryz.isAgg139
 z46:=Tryz.sizeOf139
 v46:=Tryz.zeroValue139
 t51:=Tryz.underlying180
 a51:=Tryz.isAgg180
 z51:=Tryz.sizeOf180
 v51:=Tryz.zeroValue180
 t105:=Tryz.underlying184
 a105:=Tryz.isAgg184
 z105:=Tryz.sizeOf184
 v105:=Tryz.zeroValue184
 t119:=Tryz.underlying242
 a119:=Tryz.isAgg242
 z119:=Tryz.sizeOf242
 t138:=Tryz.underlying244
 a138:=Tryz.isAgg244
 z138:=Tryz.sizeOf244
 v138:=Tryz.zeroValue244
 t139:=Tryz.underlying245
 a139:=Tryz.isAgg245
 z139:=Tryz.sizeOf245
 v139:=Tryz.zeroValue245
 t146:=Tryz.underlying181
 a146:=Tryz.isAgg181
 z146:=Tryz.sizeOf181
 v146:=Tryz.zeroValue181
 g1:=by kernel_rfl
 g3:=by kernel_rfl
 g4:=by kernel_rfl }
end
section
open Go.RowKit
def bs (l:List UInt8):ByteArray:=⟨l.toArray⟩
theorem zcX (l:List UInt8):(bs l).data.toList=l:=by simp [bs]
theorem ztP (s:ByteArray):bs s.data.toList=s:=by
 obtain ⟨⟨l⟩⟩:=s;rfl
theorem zcP (l:List UInt8):(bs l).size=l.length:=by simp [bs,ByteArray.size]
def strs (L:List (List UInt8)):List Value:=L.map fun l=>.string (bs l)
theorem zfJ (L:List (List UInt8)):(strs L).length=L.length:=by simp [strs]
theorem zso (L M:List (List UInt8)):strs (L ++ M)=strs L ++ strs M:=by simp [strs]
theorem zgC (L:List (List UInt8)):∀ u ∈ strs L,u.oneCell'=true:=by
 intro u hu;simp only [strs,List.mem_map] at hu;obtain ⟨l,_,rfl⟩:=hu;rfl
theorem zkD {L:List (List UInt8)} {j:Nat} {x:List UInt8} (h:L[j]?=some x):(strs L)[j]?=some (.string (bs x)):=by simp [strs,h]
structure Env (w:World):Prop where
 pow:∃ t fr,w.heap[1]?=some (.cells (Lib.pow10Tab.map fun z=>Value.int .u64 z).toArray t fr)
 syn:∃ ev,w.cell? ⟨2,0,none⟩=some ev∧(ev=.nilIface∨∃ te pe,ev=.iface te pe)
 rng:∃ ev,w.cell? ⟨3,0,none⟩=some ev∧(ev=.nilIface∨∃ te pe,ev=.iface te pe)
 max:∃ m,w.cell? ⟨0,0,none⟩=some (.int .i64 m)
 low:8 ≤ w.heap.size
theorem Env.below {w w':World} {B:Nat} (h:Env w) (hb:Below B w w') (hB:8 ≤ B):Env w':=by
 obtain ⟨t,fr,hp⟩:=h.pow;obtain ⟨e1,h1,h2⟩:=h.syn;obtain ⟨e2,h3,h4⟩:=h.rng;obtain ⟨m,h5⟩:=h.max;exact ⟨⟨t,fr,(hb.block _ (by omega)).trans hp⟩,⟨e1,(hb.cell (p:=⟨2,0,none⟩) (by dsimp only;omega)).trans h1,h2⟩,⟨e2,(hb.cell (p:=⟨3,0,none⟩) (by dsimp only;omega)).trans h3,h4⟩,
  ⟨m,(hb.cell (p:=⟨0,0,none⟩) (by dsimp only;omega)).trans h5⟩,Nat.le_trans h.low hb.size⟩
theorem Env.next {w w':World} (h:Env w) (hb:Below w.heap.size w w'):Env w':=h.below hb h.low
theorem Env.tab {w:World} (h:Env w) {nm:String} (hn:Tryz.prog.globalNamed nm=some 1):Lib.TabIs Tryz.prog w nm .u64 Lib.pow10Tab:=by
 obtain ⟨t,fr,hp⟩:=h.pow;unfold Lib.TabIs World.var?;rw [hn];simp only [Option.bind_some,hp]
theorem zjo (n:Int) (hn:I64 n) (w:World) (h:Env w):Calls Tryz.prog 38 #[.int .i64 n] w fun e w'=>e=.returned (.string (bs (Lib.itoa n)))∧Below w.heap.size w w':=by
 refine (Any.strconv_Itoa Tryz.laysM171 n hn.1 hn.2 w (h.tab (by kernel_rfl))).mono ?_;rintro e w' ⟨rfl,k,os,rfl⟩;exact ⟨rfl,Lib.below_grow _ _ (zl _) _ _⟩
theorem zsp (l:List UInt8) (hl:l.length ≤ 281474976710656) (w:World) (h:Env w):Calls Tryz.prog 64 #[.string (bs l)] w fun e w' =>
  ((∃ v,Lib.atoiAll l=.ok v∧e=.returned (.tuple #[.int .i64 v,.nilIface]))∨(∀ v,Lib.atoiAll l ≠ .ok v)∧∃ n t p,e=.returned (.tuple #[.int .i64 n,.iface t p]))∧Below w.heap.size w w':=by
 have hs:(bs l).size ≤ 281474976710656:=by rw [zcP];exact hl
 obtain ⟨e1,h1,h2⟩:=h.syn;obtain ⟨e2,h3,h4⟩:=h.rng;cases hh:Lib.atoiAll l with
 | ok v =>
  refine (Any.strconv_Atoi_ok Tryz.laysC172 (bs l) (by omega) v (by rw [zcX];exact hh) w).mono ?_;rintro e w' ⟨rfl,hw⟩;refine ⟨.inl ⟨v,rfl,rfl⟩,?_⟩;rcases hw with rfl | ⟨t,rfl⟩
  ·exact Below.refl _ _
  ·exact Lib.bytesWorld_below _ _ _
 | range =>
  refine (Any.strconv_Atoi_range Tryz.laysC172 (bs l) hs (by rw [zcX];exact hh) e2 w h3 h4).mono ?_;rintro e w' ⟨N,rfl,_,_,hb⟩;exact ⟨.inr ⟨nofun,_,_,_,rfl⟩,hb⟩
 | _ =>
  refine (Any.strconv_Atoi_syntax Tryz.laysC172 (bs l) hs (by rw [zcX];exact hh) e1 w h1 h2).mono ?_;rintro e w' ⟨N,rfl,_,_,hb⟩;exact ⟨.inr ⟨nofun,_,_,_,rfl⟩,hb⟩
theorem zqY (l:List UInt8) (hl:l.length ≤ 20000) (w:World) (h:Env w):Calls Tryz.prog 44 #[.string (bs l),.string (bs [32])] w fun e w' =>
  ∃ A c,e=.returned (.slice A (spl 32 l).length c)∧w'.ownsRow w.heap.size 9 1 (.slice A (spl 32 l).length c) (spl 32 l).length (strs (spl 32 l))∧Below w.heap.size w w':=by
 obtain ⟨m,hm⟩:=h.max;have hsz:(bs l).size < 4294967281:=by rw [zcP];omega
 refine (Any.strings_Split Tryz.lays146 (by kernel_rfl) (bs l) (bs [32]) m w hsz hm (by rw [zcP];decide)).mono ?_;rintro e w' ⟨rfl,rfl⟩;have hc:Lib.countB (bs l) (bs [32])=Lib.count l [32]:=by unfold Lib.countB;rw [zcX,zcX]
 have hd:(Lib.splitB (bs [32]) 0 (Lib.countB (bs l) (bs [32])) (bs l)).map (·.data.toList)=spl 32 l:=by
  rw [Lib.splitB_data,hc,zcX,zcX];exact zk5 32 l
 have hlen:Lib.countB (bs l) (bs [32]) + 1=(spl 32 l).length:=by
  rw [← hd,List.length_map,Lib.splitB_all _ (by rw [zcP];decide) 0 _ _ rfl]
 have hv:(Lib.splitB (bs [32]) 0 (Lib.countB (bs l) (bs [32])) (bs l)).map Value.string=strs (spl 32 l):=by
  rw [← hd,strs,List.map_map];apply List.map_congr_left
  intro s _;simp only [Function.comp_apply];rw [ztP]
 have hle:(spl 32 l).length ≤ maxLen:=by
  have:=Lib.countB_le (bs [32]) (by rw [zcP];decide) _ (bs l) (zl _);rw [zcP] at this;unfold maxLen;omega
 rw [hv,hlen];refine ⟨_,_,rfl,?_,(Below.refl _ _).alloc (zl _) _⟩;have:=World.ownsRow_lit (base:=w.heap.size) (e:=9) (size:=1) w (strs (spl 32 l)).toArray (spl 32 l).length (zl _) hle (by simp [zfJ]);rwa [List.toList_toArray] at this
theorem zeH (L:List (List UInt8)) (hL:L ≠ []) (A:Option Addr) (n c B:Nat) (w:World) (h:Rd w B 1 A n c (strs L)) (hB:B ≤ w.heap.size) (hn:L.length ≤ 140737488355328) (hj:(Lib.join L [32]).length ≤ 140737488355328) :
  Calls Tryz.prog 40 #[.slice A n c,.string (bs [32])] w fun e w'=>e=.returned (.string (bs (Lib.join L [32])))∧Below w.heap.size w w':=by
 have hlen:L.length=n:=by have:=h.len;rw [zfJ] at this;omega
 have hpos:0 < n:=by rw [← hlen];exact List.length_pos_iff.2 hL
 obtain ⟨b,o,rfl,hb,hc⟩:=h.at_ hpos;have e1:(L.map bs).map (·.data.toList)=L:=by simp [List.map_map,Function.comp_def,zcX]
 have hj':(Lib.join ((L.map bs).map (·.data.toList)) (bs [32]).data.toList).length ≤ 140737488355328:=by rw [e1,zcX];exact hj
 have hx:=Any.strings_Join Tryz.lays156 Tryz.Builder_Extra_156 b o c (L.map bs) (bs [32]) w (fun j x hx=>by
  rw [List.getElem?_map] at hx;cases hl:L[j]? with
  | none=>rw [hl] at hx;cases hx
  | some l=>rw [hl] at hx;injection hx with hx;subst hx;exact hc j _ (zkD hl)) (by omega) (by simpa using hn) (by have:=h.le;simp;omega) hj'
 rw [List.length_map,hlen] at hx;refine hx.mono ?_;rintro e w' ⟨rfl,hb⟩;refine ⟨?_,hb⟩;rw [e1,zcX];rfl
end
section
open Go.RowKit
theorem zaA {Q:Exit→Act→World→Prop} {e:Exit} {a:Act} {W:World} (h:∀ Z,Z=W→Q e a Z):Q e a W:=h W rfl
theorem zd3 {a b:Int} (h:a=b):Ending.returned (.int .i64 a)=.returned (.int .i64 b):=by rw [h]
set_option maxHeartbeats 1000000 in
set_option maxRecDepth 100000 in
theorem zlU (c:Cm) (w:World):Calls Tryz.prog 35 #[.agg #[.int .i64 c.kind,.int .i64 c.acc,.int .i64 c.market,.int .i64 c.n,.int .i64 c.o.id,.int .i64 c.o.acc,.int .i64 c.o.side,.int .i64 c.o.price,.int .i64 c.o.qty,.int .i64 c.how,.bool c.reduce]] w fun e w'=>e=.returned (.int .i64 (za0 c))∧Below w.heap.size w w':=by
 obtain ⟨kind,acc,market,n,⟨oid,oacc,oside,oprice,oqty⟩,how,reduce⟩:=c;simp only;by_cases h1:kind < 1
 ·have HE:=zi (show za0 ⟨kind,acc,market,n,⟨oid,oacc,oside,oprice,oqty⟩,how,reduce⟩=4 by unfold za0;rw [if_pos (.inl h1)]);go_enter Tryz.func35,Tryz.ntmps35
  go_wp2_with fail
  go_ret;exact ⟨zd3 HE.out.symm,(Below.refl _ _).alloc (zl _) _⟩
 by_cases h2:7 < kind
 ·have HE:=zi (show za0 ⟨kind,acc,market,n,⟨oid,oacc,oside,oprice,oqty⟩,how,reduce⟩=4 by unfold za0;rw [if_pos (.inr h2)]);have h1':1 ≤ kind:=by omega
  go_enter Tryz.func35,Tryz.ntmps35
  go_wp2_with fail
  go_ret;exact ⟨zd3 HE.out.symm,(Below.refl _ _).alloc (zl _) _⟩
 have hk:kind=1∨kind=2∨kind=4∨kind=5∨kind=6∨kind=3∨kind=7:=by omega
 clear h1 h2;rcases hk with rfl | rfl | rfl | rfl | rfl | rfl | rfl
 ·have q:=fun w=>zdI ⟨1,acc,market,n,⟨oid,oacc,oside,oprice,oqty⟩,how,reduce⟩ ⟨1,acc,0,n,⟨0,0,0,0,0⟩,0,false⟩ w;have HE:za0 ⟨1,acc,market,n,⟨oid,oacc,oside,oprice,oqty⟩,how,reduce⟩=if eqCm ⟨1,acc,market,n,⟨oid,oacc,oside,oprice,oqty⟩,how,reduce⟩ ⟨1,acc,0,n,⟨0,0,0,0,0⟩,0,false⟩ then 0 else 3:=by
   unfold za0;rw [if_neg (by dsimp only;omega),if_neg (by dsimp only;omega)];rfl
  generalize eqCm ⟨1,acc,market,n,⟨oid,oacc,oside,oprice,oqty⟩,how,reduce⟩ ⟨1,acc,0,n,⟨0,0,0,0,0⟩,0,false⟩=d at q HE;replace HE:=zi HE;dsimp only at q;cases d;all_goals
   go_enter Tryz.func35,Tryz.ntmps35
   go_wp2_with fail
   go_region
   go_wp2_with fail
   go_ret;exact ⟨zd3 HE.out.symm,by first | exact ((Below.refl _ _).alloc (zl _) _).alloc (by simp) _ | exact zac (((Below.refl _ _).alloc (zl _) _).alloc (by simp) _) 1⟩
 ·have q:=fun w=>zdI ⟨2,acc,market,n,⟨oid,oacc,oside,oprice,oqty⟩,how,reduce⟩ ⟨2,acc,0,n,⟨0,0,0,0,0⟩,0,false⟩ w;have HE:za0 ⟨2,acc,market,n,⟨oid,oacc,oside,oprice,oqty⟩,how,reduce⟩=if eqCm ⟨2,acc,market,n,⟨oid,oacc,oside,oprice,oqty⟩,how,reduce⟩ ⟨2,acc,0,n,⟨0,0,0,0,0⟩,0,false⟩ then 0 else 3:=by
   unfold za0;rw [if_neg (by dsimp only;omega),if_neg (by dsimp only;omega)];rfl
  generalize eqCm ⟨2,acc,market,n,⟨oid,oacc,oside,oprice,oqty⟩,how,reduce⟩ ⟨2,acc,0,n,⟨0,0,0,0,0⟩,0,false⟩=d at q HE;replace HE:=zi HE;dsimp only at q;cases d;all_goals
   go_enter Tryz.func35,Tryz.ntmps35
   go_wp2_with fail
   go_region
   go_wp2_with fail
   go_ret;exact ⟨zd3 HE.out.symm,by first | exact ((Below.refl _ _).alloc (zl _) _).alloc (by simp) _ | exact zac (((Below.refl _ _).alloc (zl _) _).alloc (by simp) _) 1⟩
 ·have q:=fun w=>zdI ⟨4,acc,market,n,⟨oid,oacc,oside,oprice,oqty⟩,how,reduce⟩ ⟨4,acc,0,n,⟨0,0,0,0,0⟩,0,false⟩ w;have HE:za0 ⟨4,acc,market,n,⟨oid,oacc,oside,oprice,oqty⟩,how,reduce⟩=if eqCm ⟨4,acc,market,n,⟨oid,oacc,oside,oprice,oqty⟩,how,reduce⟩ ⟨4,acc,0,n,⟨0,0,0,0,0⟩,0,false⟩ then 0 else 3:=by
   unfold za0;rw [if_neg (by dsimp only;omega),if_neg (by dsimp only;omega)];rfl
  generalize eqCm ⟨4,acc,market,n,⟨oid,oacc,oside,oprice,oqty⟩,how,reduce⟩ ⟨4,acc,0,n,⟨0,0,0,0,0⟩,0,false⟩=d at q HE;replace HE:=zi HE;dsimp only at q;cases d;all_goals
   go_enter Tryz.func35,Tryz.ntmps35
   go_wp2_with fail
   go_region
   go_wp2_with fail
   go_ret;exact ⟨zd3 HE.out.symm,by first | exact ((Below.refl _ _).alloc (zl _) _).alloc (by simp) _ | exact zac (((Below.refl _ _).alloc (zl _) _).alloc (by simp) _) 1⟩
 ·have q:=fun w=>zdI ⟨5,acc,market,n,⟨oid,oacc,oside,oprice,oqty⟩,how,reduce⟩ ⟨5,0,market,n,⟨0,0,0,0,0⟩,0,false⟩ w;have HE:za0 ⟨5,acc,market,n,⟨oid,oacc,oside,oprice,oqty⟩,how,reduce⟩=if eqCm ⟨5,acc,market,n,⟨oid,oacc,oside,oprice,oqty⟩,how,reduce⟩ ⟨5,0,market,n,⟨0,0,0,0,0⟩,0,false⟩ then 0 else 3:=by
   unfold za0;rw [if_neg (by dsimp only;omega),if_neg (by dsimp only;omega)];rfl
  generalize eqCm ⟨5,acc,market,n,⟨oid,oacc,oside,oprice,oqty⟩,how,reduce⟩ ⟨5,0,market,n,⟨0,0,0,0,0⟩,0,false⟩=d at q HE;replace HE:=zi HE;dsimp only at q;cases d;all_goals
   go_enter Tryz.func35,Tryz.ntmps35
   go_wp2_with fail
   go_region
   go_wp2_with fail
   go_ret;exact ⟨zd3 HE.out.symm,by first | exact ((Below.refl _ _).alloc (zl _) _).alloc (by simp) _ | exact zac (((Below.refl _ _).alloc (zl _) _).alloc (by simp) _) 1⟩
 ·have q:=fun w=>zdI ⟨6,acc,market,n,⟨oid,oacc,oside,oprice,oqty⟩,how,reduce⟩ ⟨6,0,market,n,⟨0,0,0,0,0⟩,0,false⟩ w;have HE:za0 ⟨6,acc,market,n,⟨oid,oacc,oside,oprice,oqty⟩,how,reduce⟩=if eqCm ⟨6,acc,market,n,⟨oid,oacc,oside,oprice,oqty⟩,how,reduce⟩ ⟨6,0,market,n,⟨0,0,0,0,0⟩,0,false⟩ then 0 else 3:=by
   unfold za0;rw [if_neg (by dsimp only;omega),if_neg (by dsimp only;omega)];rfl
  generalize eqCm ⟨6,acc,market,n,⟨oid,oacc,oside,oprice,oqty⟩,how,reduce⟩ ⟨6,0,market,n,⟨0,0,0,0,0⟩,0,false⟩=d at q HE;replace HE:=zi HE;dsimp only at q;cases d;all_goals
   go_enter Tryz.func35,Tryz.ntmps35
   go_wp2_with fail
   go_region
   go_wp2_with fail
   go_ret;exact ⟨zd3 HE.out.symm,by first | exact ((Below.refl _ _).alloc (zl _) _).alloc (by simp) _ | exact zac (((Below.refl _ _).alloc (zl _) _).alloc (by simp) _) 1⟩
 ·by_cases hh:how < 1∨4 < how∨oside ≠ 1∧oside ≠ -1
  ·have HE:=zi (show za0 ⟨3,acc,market,n,⟨oid,oacc,oside,oprice,oqty⟩,how,reduce⟩=4 by unfold za0;rw [if_neg (by dsimp only;omega),if_pos ⟨rfl,hh⟩]);have hw:how < 1∨1 ≤ how∧4 < how∨(1 ≤ how∧how ≤ 4)∧(oside != 1)=true∧(oside != -1)=true:=by
    rcases Int.lt_or_le how 1 with g1 | g1
    ·exact .inl g1
    ·rcases Int.lt_or_le 4 how with g2 | g2
     ·exact .inr (.inl ⟨g1,g2⟩)
     ·exact .inr (.inr ⟨⟨g1,g2⟩,by simp;omega,by simp;omega⟩)
   clear hh;rcases hw with g1 | ⟨g1,g2⟩ | ⟨⟨g1,g2⟩,g3,g4⟩;all_goals
    go_enter Tryz.func35,Tryz.ntmps35
    go_wp2_with fail
    go_ret;exact ⟨zd3 HE.out.symm,by first | exact ((Below.refl _ _).alloc (zl _) _).alloc (by simp) _ | exact zac (((Below.refl _ _).alloc (zl _) _).alloc (by simp) _) 1⟩
  ·have q:=fun w=>zdI ⟨3,acc,market,n,⟨oid,oacc,oside,oprice,oqty⟩,how,reduce⟩ ⟨3,acc,market,0,⟨0,0,oside,oprice,oqty⟩,how,reduce⟩ w;have HE:za0 ⟨3,acc,market,n,⟨oid,oacc,oside,oprice,oqty⟩,how,reduce⟩=if eqCm ⟨3,acc,market,n,⟨oid,oacc,oside,oprice,oqty⟩,how,reduce⟩ ⟨3,acc,market,0,⟨0,0,oside,oprice,oqty⟩,how,reduce⟩ then 0 else 3:=by
    unfold za0;rw [if_neg (by dsimp only;omega),if_neg (fun h=>hh h.2)];rfl
   generalize eqCm ⟨3,acc,market,n,⟨oid,oacc,oside,oprice,oqty⟩,how,reduce⟩ ⟨3,acc,market,0,⟨0,0,oside,oprice,oqty⟩,how,reduce⟩=d at q HE;replace HE:=zi HE;dsimp only at q;have hw:(1 ≤ how∧how ≤ 4)∧(oside=1∨oside = -1):=by omega
   clear hh;obtain ⟨⟨g1,g2⟩,rfl | rfl⟩:=hw;all_goals
    cases d;all_goals
     go_enter Tryz.func35,Tryz.ntmps35
     go_wp2_with fail
     go_ret;exact ⟨zd3 HE.out.symm,by first | exact ((Below.refl _ _).alloc (zl _) _).alloc (by simp) _ | exact zac (((Below.refl _ _).alloc (zl _) _).alloc (by simp) _) 1⟩
 ·have q:=fun w=>zdI ⟨7,acc,market,n,⟨oid,oacc,oside,oprice,oqty⟩,how,reduce⟩ ⟨7,0,0,0,⟨0,0,0,0,0⟩,0,false⟩ w;have HE:za0 ⟨7,acc,market,n,⟨oid,oacc,oside,oprice,oqty⟩,how,reduce⟩=if eqCm ⟨7,acc,market,n,⟨oid,oacc,oside,oprice,oqty⟩,how,reduce⟩ ⟨7,0,0,0,⟨0,0,0,0,0⟩,0,false⟩ then 0 else 3:=by
   unfold za0;rw [if_neg (by dsimp only;omega),if_neg (by dsimp only;omega)];rfl
  generalize eqCm ⟨7,acc,market,n,⟨oid,oacc,oside,oprice,oqty⟩,how,reduce⟩ ⟨7,0,0,0,⟨0,0,0,0,0⟩,0,false⟩=d at q HE;replace HE:=zi HE;dsimp only at q;cases d;all_goals
   go_enter Tryz.func35,Tryz.ntmps35
   go_wp2_with fail
   skip;go_wp2_with fail
   go_ret;exact ⟨zd3 HE.out.symm,by first | exact ((Below.refl _ _).alloc (zl _) _).alloc (by simp) _ | exact zac (((Below.refl _ _).alloc (zl _) _).alloc (by simp) _) 1⟩
end
section
open Go.RowKit
theorem zgW {P:Program} {ops:Array Oper} {o:Oper} {a:Act} {w:World} {K:Act→World→Prop} {Q:Exit→Act→World→Prop} {X:Prop} (hgd:o.guard=none) (s x:Operand) (t:TypeId)
  (ho:o.op=.call { callee:=.builtin .append,args:=#[s,x],argTypes:=#[t,t] })
  (base e k bytes:Nat) (E:Elem P t e k bytes) (v:Value) (n:Nat) (xs:List Value) (hs:a.eval s=v) (hown:w.ownsRow base e k v n xs)
  (B:Nat) (A:Option Addr) (m c:Nat) (news:List Value) (hx:a.eval x=.slice A m c) (hr:Rd w B k A m c news) (h1:∀ u ∈ news,u.oneCell'=true)
  (hlen:n + m ≤ maxLen) (hbytes:(n + m) * bytes ≤ 140737488355328) (hbase:base ≤ w.heap.size)
  (h:∀ v' w',w'.ownsRow base e k v' (n + m) (xs ++ news)→Below base w w'→w.grownBy w' v.ownBlock→(v'.ownBlock=v.ownBlock∨v'.ownBlock=some w.heap.size)→K (a.put o.dst v') w') :
  (if Region.wanted o (yielded ops a.tmps)=true then o.wp P a w K Q else X):=by
 rw [if_pos (show Region.wanted o (yielded ops a.tmps)=true by simp [Region.wanted,hgd])];exact zl2 s x t ho base e k bytes E v n xs hs hown B A m c news hx hr h1 hlen hbytes hbase h
theorem zer {w:World} (cs:Array Value) (t:TypeId) (g k:Nat) (hg:g=w.heap.size) (hk:cs.size=k) (xs:List Value) (hx:cs.toList=xs):Rd (w.alloc (.cells cs t)) (g + 1) k (some ⟨g,0,none⟩) 1 1 xs:=by
 subst hg hx;exact ⟨by simp [hk],zl _,by decide,nofun,fun _=>⟨_,_,rfl,by omega,fun j u hj=>by rw [World.cell?_alloc_new];simpa using hj⟩⟩
theorem zfK:Elem Tryz.prog 91 9 1 16:=zei Tryz.underlying91 (by kernel_rfl) (by decide)
theorem zbC {w w':World} {g:Nat} {t:TypeId} {cs:Array Value} {b:Option Nat} (h:Blk w g t cs) (hg:w.grownBy w' b) (hne:b ≠ some g):Blk w' g t cs:=(hg.block g h.lt fun e=>hne e.symm).trans h
theorem zd9 {w:World} {base e k n:Nat} {v:Value} {xs:List Value} (h:w.ownsRow base e k v n xs) {p:Addr} (hp:v.ownBlock ≠ some p.block) (u:Value):(w.setCell p u).ownsRow base e k v n xs:=by
 obtain ⟨hl,h0 | ⟨g,cap,cur,rfl,h1,h2,h3⟩⟩:=h
 ·exact ⟨hl,.inl h0⟩
 ·exact ⟨hl,.inr ⟨g,cap,cur,rfl,h1,Blk.far (t:=e) (cs:=cur) h2 (fun e=>hp (by rw [← e];rfl)) u,h3⟩⟩
theorem zaV {w:World} {g:Nat} {t:TypeId} {a b:Value} (h:Blk w g t #[a,b]):w.cell? ⟨g,0,none⟩=some a∧w.cell? ⟨g,1,none⟩=some b:=⟨h.cell 0,h.cell 1⟩
structure PW (w0 wr:World) (base g:Nat) (v:Value) (L:List (List UInt8)):Prop where
 bel:Below base w0 wr
 cell:Blk wr g 91 #[v]
 gb:base ≤ g
 row:wr.ownsRow base 9 1 v L.length (strs L)
 ap:v.ownBlock ≠ some g
 low:8 ≤ base
 env:Env w0
 size:base ≤ wr.heap.size
theorem PW.en {w0 wr:World} {base g:Nat} {v:Value} {L:List (List UInt8)} (h:PW w0 wr base g v L):Env wr:=h.env.below h.bel h.low
theorem PW.below {w0 wr w1:World} {base g:Nat} {v:Value} {L:List (List UInt8)} (h:PW w0 wr base g v L) (hb:Below wr.heap.size wr w1):PW w0 w1 base g v L :=
 ⟨h.bel.trans (hb.mono h.size),h.cell.below hb h.cell.lt,h.gb,zaf h.row hb (zl _),h.ap,h.low,h.env,Nat.le_trans h.size hb.size⟩
theorem PW.add {w0 wr W4:World} {base g:Nat} {v v4:Value} {L:List (List UInt8)} {x:List UInt8} (h:PW w0 wr base g v L) (hown:W4.ownsRow base 9 1 v4 (L.length + 1) (strs L ++ strs [x])) (hb:Below base wr W4) (hg:wr.grownBy W4 v.ownBlock)
  (ha:v4.ownBlock=v.ownBlock∨v4.ownBlock=some wr.heap.size):PW w0 (W4.setCell ⟨g,0,none⟩ v4) base g v4 (L ++ [x]):=by
 have hc:=zbC h.cell hg h.ap;have hap:v4.ownBlock ≠ some g:=by
  rcases ha with e | e
  ·rw [e];exact h.ap
  ·rw [e];intro e';injection e' with e';have:=h.cell.lt;omega
 refine ⟨(h.bel.trans hb).setCell h.gb _,hc.set_ 0 v4,h.gb,?_,hap,h.low,h.env,Nat.le_trans h.size (by simpa using hb.size)⟩;rw [← zso] at hown;have:=zd9 hown (p:=⟨g,0,none⟩) hap v4;rw [List.length_append];exact this
theorem zqZ {w:World} {v v4:Value} {ga:Nat} (hv:v.ownBlock ≠ some ga) (hga:ga < w.heap.size) (ha:v4.ownBlock=v.ownBlock∨v4.ownBlock=some w.heap.size):v4.ownBlock ≠ some ga:=by
 rcases ha with e | e
 ·rw [e];exact hv
 ·rw [e];intro e';injection e' with e';omega
set_option maxHeartbeats 2000000 in
set_option maxRecDepth 100000 in
theorem zfL (w0 w:World) (base g ga:Nat) (v:Value) (L:List (List UInt8)) (x y:Int) (h:PW w0 w base g v L) (ha:Blk w ga 3 #[.int .i64 x,.int .i64 y]) (hv:v.ownBlock ≠ some ga) (hga:ga ≠ g) (hx:I64 x) (hy:I64 y) (hL:L.length ≤ 100) :
  Calls Tryz.prog 37 #[.slice (some ⟨ga,0,none⟩) 2 2,.pointer (some ⟨g,0,none⟩)] w fun e w'=>e=.returned (.tuple #[])∧∃ v',PW w0 w' base g v' (L ++ [Lib.itoa x,Lib.itoa y]):=by
 have H0:=zi h;have HA0:=zi ha;have HV0:=zi hv;clear h ha hv;go_enter Tryz.func37,Tryz.ntmps37
 go_wp2_with fail
 go_loopw [7] (fun vi wr=>∃ (j:Nat) (v':Value),j ≤ 2∧vi=.int .i64 j∧Hid (PW w0 wr base g v' (L ++ ([x,y].take j).map Lib.itoa))∧Hid (Blk wr ga 3 #[.int .i64 x,.int .i64 y])∧Hid (v'.ownBlock ≠ some ga)) (fun vi _=>2 - (intOf vi).toNat)
 case atStart=>exact ⟨0,v,by omega,rfl,by simpa using H0,HA0,HV0⟩
 case round =>
  obtain ⟨j,v',hj,rfl,HP,HA,HV⟩:=hrel;by_cases hlt:j < 2
  ·obtain rfl | rfl:j=0∨j=1:=by omega
   ·obtain ⟨M,hM⟩:∃ M,M=L ++ ([x,y].take 0).map Lib.itoa:=⟨_,rfl⟩;have HE:=zi (show M ++ [Lib.itoa x]=L ++ ([x,y].take (0 + 1)).map Lib.itoa by rw [hM];simp);have hml:M.length ≤ 101:=by rw [hM];simp;omega
    rw [← hM] at HP;have hmx:M.length + 1 ≤ maxLen:=by simp [maxLen];omega
    have hby:(M.length + 1) * 16 ≤ 140737488355328:=by omega
    clear hM;clear hlt;obtain ⟨k0,k1⟩:=zaV HA.out;have HP1:=zi (HP.out.below (w1:=wr.drew) (zac (Below.refl _ _) 1));have HA1:Hid (Blk wr.drew ga 3 #[.int .i64 x,.int .i64 y]):=HA;have HI:=zi (zjo x hx wr.drew HP1.out.en);have hgl:=HP.out.cell.lt;have hal:=HA.out.lt;have hsz:=HP.out.size;have kg:wr.cell? ⟨g,0,none⟩=some v':=HP.out.cell.cell 0;have hne:=hga;go_wp2_with fail
    go_region_law (first
     | (refine zgW rfl _ _ 91 rfl base 9 1 16 zfK v' _ _ (by simp [Act.eval]) (World.ownsRow.alloc HPW.out.row _) (W'.heap.size + 1) (some ⟨W'.heap.size,0,none⟩) 1 1 (strs [Lib.itoa x]) (by simp [Act.eval]) (zer _ _ _ 1 rfl rfl _ rfl) (zgC _) hmx hby hbs ?_;intro v4 W4 hown4 hbel4 hgrow hat;obtain ⟨A4,c4,rfl⟩:=zad hown4;have kg4:W4.cell? ⟨g,0,none⟩=some v':=(zbC (HPW.out.cell.alloc _) hgrow HPW.out.ap).cell 0;have fg4:=(zbC (HPW.out.cell.alloc _) hgrow HPW.out.ap).frozen 0)
     | (go_simp;go_at_call 38;refine HI.out.mono ?_;rintro e W' ⟨rfl,hbW⟩;have HPW:=zi (HP1.out.below hbW);have HAW:=zi (HA1.out.below hbW HA1.out.lt);have hbs:base ≤ (W'.alloc (.cells #[.string (bs (Lib.itoa x))] 9)).heap.size:=Nat.le_trans HPW.out.size (by simp);have kgW:W'.cell? ⟨g,0,none⟩=some v':=HPW.out.cell.cell 0;have hgW:=HPW.out.cell.lt))
    all_goals
     have HN:=zi ((HPW.out.below ((Below.refl _ _).alloc (zl _) _)).add hown4 hbel4 hgrow hat);rw [HE.out] at HN;have HAN:=zi (fun u=>(zbC (HAW.out.alloc _) hgrow HV.out).far (p:=⟨g,0,none⟩) hne u);have HVN:=zi (zqZ HV.out (HAW.out.alloc _).lt hat);go_wp2_with fail
     go_roundw
     case rel=>exact ⟨0 + 1,_,by omega,by go_num,HN,zi (HAN.out _),HVN⟩
     case measure=>simp [intOf]
   ·obtain ⟨M,hM⟩:∃ M,M=L ++ ([x,y].take 1).map Lib.itoa:=⟨_,rfl⟩;have HE:=zi (show M ++ [Lib.itoa y]=L ++ ([x,y].take (1 + 1)).map Lib.itoa by rw [hM];simp);have hml:M.length ≤ 101:=by rw [hM];simp;omega
    rw [← hM] at HP;have hmx:M.length + 1 ≤ maxLen:=by simp [maxLen];omega
    have hby:(M.length + 1) * 16 ≤ 140737488355328:=by omega
    clear hM;clear hlt;obtain ⟨k0,k1⟩:=zaV HA.out;have HP1:=zi (HP.out.below (w1:=wr.drew) (zac (Below.refl _ _) 1));have HA1:Hid (Blk wr.drew ga 3 #[.int .i64 x,.int .i64 y]):=HA;have HI:=zi (zjo y hy wr.drew HP1.out.en);have hgl:=HP.out.cell.lt;have hal:=HA.out.lt;have hsz:=HP.out.size;have kg:wr.cell? ⟨g,0,none⟩=some v':=HP.out.cell.cell 0;have hne:=hga;go_wp2_with fail
    go_region_law (first
     | (refine zgW rfl _ _ 91 rfl base 9 1 16 zfK v' _ _ (by simp [Act.eval]) (World.ownsRow.alloc HPW.out.row _) (W'.heap.size + 1) (some ⟨W'.heap.size,0,none⟩) 1 1 (strs [Lib.itoa y]) (by simp [Act.eval]) (zer _ _ _ 1 rfl rfl _ rfl) (zgC _) hmx hby hbs ?_;intro v4 W4 hown4 hbel4 hgrow hat;obtain ⟨A4,c4,rfl⟩:=zad hown4;have kg4:W4.cell? ⟨g,0,none⟩=some v':=(zbC (HPW.out.cell.alloc _) hgrow HPW.out.ap).cell 0;have fg4:=(zbC (HPW.out.cell.alloc _) hgrow HPW.out.ap).frozen 0)
     | (go_simp;go_at_call 38;refine HI.out.mono ?_;rintro e W' ⟨rfl,hbW⟩;have HPW:=zi (HP1.out.below hbW);have HAW:=zi (HA1.out.below hbW HA1.out.lt);have hbs:base ≤ (W'.alloc (.cells #[.string (bs (Lib.itoa y))] 9)).heap.size:=Nat.le_trans HPW.out.size (by simp);have kgW:W'.cell? ⟨g,0,none⟩=some v':=HPW.out.cell.cell 0;have hgW:=HPW.out.cell.lt))
    all_goals
     have HN:=zi ((HPW.out.below ((Below.refl _ _).alloc (zl _) _)).add hown4 hbel4 hgrow hat);rw [HE.out] at HN;have HAN:=zi (fun u=>(zbC (HAW.out.alloc _) hgrow HV.out).far (p:=⟨g,0,none⟩) hne u);have HVN:=zi (zqZ HV.out (HAW.out.alloc _).lt hat);go_wp2_with fail
     go_roundw
     case rel=>exact ⟨1 + 1,_,by omega,by go_num,HN,zi (HAN.out _),HVN⟩
     case measure=>simp [intOf]
  ·obtain rfl:j=2:=by omega
   go_wp2_with fail
   go_end0
   exact ⟨rfl,v',by simpa using HP.out⟩
end
section
open Go.RowKit
theorem zh2 {P:Program} {t e:TypeId} {n:Nat} (h:P.underlying t=some (.array n e)) (he:P.underlying e=some .string) (hz:∀ w,(sizeOf e).run P w=.ok 1 w) (cs:Array Value) (k:Nat) (hk:k < n) (v:Value) (hv:cs[k]?=some v) (w:World):(Instr.index t (.agg cs) (.int .i64 (k:Int))).run P w=.ok v w:=by
 unfold Instr.index;simp [asIntOf,go_sem,run_underlying h,Result.andThen,hz,hk,hv,isAgg,run_underlying he]
theorem zlx (w:World):Calls Tryz.prog 36 #[] w fun e w'=>e=.returned (.agg #[.string (bs []),.string (bs ze5),.string (bs zeC),.string (bs zgv),.string (bs zfG),.string (bs zgw),.string (bs zhI),.string (bs zgx)])∧Below w.heap.size w w':=by
 go_enter Tryz.func36,Tryz.ntmps36
 go_wp2_with fail
 refine bodyPost_ret (v:=.agg #[.string (bs []),.string (bs ze5),.string (bs zeC),.string (bs zgv),.string (bs zfG),.string (bs zgw),.string (bs zhI),.string (bs zgx)]) (by simp [results,Tryz.results36,go_sem];exact ⟨rfl,rfl,rfl,rfl,rfl,rfl,rfl,rfl⟩) rfl ⟨rfl,?_⟩;exact (Below.refl _ _).alloc (zl _) _
theorem zjp (w:World):Calls Tryz.prog 39 #[] w fun e w'=>e=.returned (.agg #[.string (bs []),.string (bs zf1),.string (bs wNow),.string (bs zf2),.string (bs zgK)])∧Below w.heap.size w w':=by
 go_enter Tryz.func39,Tryz.ntmps39
 go_wp2_with fail
 refine bodyPost_ret (v:=.agg #[.string (bs []),.string (bs zf1),.string (bs wNow),.string (bs zf2),.string (bs zgK)]) (by simp [results,Tryz.results39,go_sem];exact ⟨rfl,rfl,rfl,rfl,rfl⟩) rfl ⟨rfl,?_⟩;exact (Below.refl _ _).alloc (zl _) _
theorem zly (k:Nat) (hk:k < 8) (w:World):(Instr.index 89 (.agg #[.string (bs []),.string (bs ze5),.string (bs zeC),.string (bs zgv),.string (bs zfG),.string (bs zgw),.string (bs zhI),.string (bs zgx)]) (.int .i64 (k:Int))).run Tryz.prog w=.ok (.string (bs (za3 k))) w:=by
 refine zh2 Tryz.underlying89 Tryz.underlying9 (fun _=>by kernel_rfl) _ k hk _ ?_ w;obtain rfl | rfl | rfl | rfl | rfl | rfl | rfl | rfl:k=0∨k=1∨k=2∨k=3∨k=4∨k=5∨k=6∨k=7:=by omega
 all_goals rfl
theorem zjq (k:Nat) (hk:k < 5) (w:World):(Instr.index 94 (.agg #[.string (bs []),.string (bs zf1),.string (bs wNow),.string (bs zf2),.string (bs zgK)]) (.int .i64 (k:Int))).run Tryz.prog w=.ok (.string (bs (howW k))) w:=by
 refine zh2 Tryz.underlying94 Tryz.underlying9 (fun _=>by kernel_rfl) _ k hk _ ?_ w;obtain rfl | rfl | rfl | rfl | rfl:k=0∨k=1∨k=2∨k=3∨k=4:=by omega
 all_goals rfl
end
end Go.Proofs.YtockodmbhnlheaaGreatDoor
