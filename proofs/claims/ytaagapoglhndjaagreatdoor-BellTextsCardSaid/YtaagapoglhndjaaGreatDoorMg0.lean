/- The functions. -/
import Derived.Test.YtaagapoglhndjaaGreatDoorMf0
import Derived.Shelf.Strconv.Itoa3
import Derived.Shelf.LaysM
import Derived.Shelf.LaysC
import Derived.Shelf.Strconv.AtoiAll
import Derived.Shelf.Strings.Split
import Derived.Shelf.Strings.FieldsFuncAny
import Derived.KernelRfl
import Derived.Test.YtaagapoglhndjaaGreatDoorChecked
import Derived.Test.YtaagapoglhndjaaGreatDoorMh
import Derived.WalkKit
import Derived.LoopN
import Derived.Shelf.Strings.BuilderF
import Derived.Lib.Explode
import Derived.Lib.ItoaNum
namespace Go.Proofs
open Go.Shelf
def Tryz.laysM171_ren:Go.Shelf.Ren:=⟨fun | 171=>91 | 243=>117 | 246=>125 | 283=>134 | 284=>135 | 285=>136 | 286=>137 | 129=>149 | 317=>148 | 318=>150 | 319=>151 | 320=>152 | 337=>158 | 338=>159 | n=>n,fun | 3=>3 | 9=>9 | 2=>2 | 4=>4 | 171=>181 | 0=>0 | 53=>180 | 37=>110 | 5=>5 | 173=>183 | 212=>193 | 51=>178 | 20=>20 | 213=>194 | 46=>170 | 232=>212 | 233=>213 | n=>n,fun | 17=>1 | 18=>6 | 19=>7 | n=>n⟩
theorem Tryz.laysM171:Go.Proofs.LaysM.n171 Tryz.prog Tryz.laysM171_ren:={
 mixed:=by kernel_rfl
 f129:=Tryz.func149.trans (congrArg some (by kernel_rfl))
 f171:=Tryz.func91.trans (congrArg some (by kernel_rfl))
 f243:=Tryz.func117.trans (congrArg some (by kernel_rfl))
 f246:=Tryz.func125.trans (congrArg some (by kernel_rfl))
 f283:=Tryz.func134.trans (congrArg some (by kernel_rfl))
 f284:=Tryz.func135.trans (congrArg some (by kernel_rfl))
 f285:=Tryz.func136.trans (congrArg some (by kernel_rfl))
 f286:=Tryz.func137.trans (congrArg some (by kernel_rfl))
 f317:=Tryz.func148.trans (congrArg some (by kernel_rfl))
 f318:=Tryz.func150.trans (congrArg some (by kernel_rfl))
 f319:=Tryz.func151.trans (congrArg some (by kernel_rfl))
 f320:=Tryz.func152.trans (congrArg some (by kernel_rfl))
 f337:=Tryz.func158.trans (congrArg some (by kernel_rfl))
 f338:=Tryz.func159.trans (congrArg some (by kernel_rfl))
 t0:=Tryz.underlying0
 a0:=Tryz.isAgg0
 z0:=Tryz.sizeOf0
 v0:=Tryz.zeroValue0
 t2:=Tryz.underlying2
 a2:=Tryz.isAgg2
 z2:=Tryz.sizeOf2
 v2:=Tryz.zeroValue2
 t3:=Tryz.underlying3
 a3:=Tryz.isAgg3
 z3:=Tryz.sizeOf3
 v3:=Tryz.zeroValue3
 t4:=Tryz.underlying4
 a4:=Tryz.isAgg4
 z4:=Tryz.sizeOf4
 v4:=Tryz.zeroValue4
 t5:=Tryz.underlying5
 a5:=Tryz.isAgg5
 z5:=Tryz.sizeOf5
 v5:=Tryz.zeroValue5
 t9:=Tryz.underlying9
 a9:=Tryz.isAgg9
 z9:=Tryz.sizeOf9
 v9:=Tryz.zeroValue9
 t20:=Tryz.underlying20
 a20:=Tryz.isAgg20
 z20:=Tryz.sizeOf20
 v20:=Tryz.zeroValue20
 t37:=Tryz.underlying110
 a37:=Tryz.isAgg110
 z37:=Tryz.sizeOf110
 v37:=Tryz.zeroValue110
 t46:=Tryz.underlying170
 a46:=Tryz.isAgg170
 z46:=Tryz.sizeOf170
 v46:=Tryz.zeroValue170
 t51:=Tryz.underlying178
 a51:=Tryz.isAgg178
 z51:=Tryz.sizeOf178
 v51:=Tryz.zeroValue178
 t53:=Tryz.underlying180
 a53:=Tryz.isAgg180
 z53:=Tryz.sizeOf180
 v53:=Tryz.zeroValue180
 t171:=Tryz.underlying181
 a171:=Tryz.isAgg181
 z171:=Tryz.sizeOf181
 v171:=Tryz.zeroValue181
 t173:=Tryz.underlying183
 a173:=Tryz.isAgg183
 z173:=Tryz.sizeOf183
 v173:=Tryz.zeroValue183
 t212:=Tryz.underlying193
 a212:=Tryz.isAgg193
 z212:=Tryz.sizeOf193
 v212:=Tryz.zeroValue193
 t213:=Tryz.underlying194
 a213:=Tryz.isAgg194
 z213:=Tryz.sizeOf194
 t232:=Tryz.underlying212
 a232:=Tryz.isAgg212
 z232:=Tryz.sizeOf212
 v232:=Tryz.zeroValue212
 t233:=Tryz.underlying213
 a233:=Tryz.isAgg213
 z233:=Tryz.sizeOf213
 v233:=Tryz.zeroValue213
 g17:=by kernel_rfl
 g18:=by kernel_rfl
 g19:=by kernel_rfl
 i0:=by kernel_rfl
 i2:=by kernel_rfl
 i3:=by kernel_rfl
 i4:=by kernel_rfl
 i5:=by kernel_rfl
 i9:=by kernel_rfl
 i20:=by kernel_rfl
 i37:=by kernel_rfl
 i46:=by kernel_rfl
 i51:=by kernel_rfl
 i53:=by kernel_rfl
 i171:=by kernel_rfl
 i173:=by kernel_rfl
 i212:=by kernel_rfl
 i232:=by kernel_rfl
 i233:=by kernel_rfl
 m17:=by kernel_rfl
 m18:=by kernel_rfl
 m19:=by kernel_rfl }
open Go.RowKit Go.Sort Go.Lib in
theorem Tryz.strconv_Itoa (n:Int) (h0:-9223372036854775808≤n) (h1:n≤9223372036854775807) (w:World) (htab:Lib.TabIs Tryz.prog w "internal/strconv.uint64pow10" .u64 Lib.pow10Tab) :
  Calls Tryz.prog 91 #[.int .i64 n] w fun e w'=>e=.returned (.string ⟨(Lib.itoa n).toArray⟩)∧∃ k os,w'=grow (w.drewN k) os:=Any.strconv_Itoa Tryz.laysM171 n h0 h1 w htab
def Tryz.laysC172_ren:Go.Shelf.Ren:=⟨fun | 172=>121 | 244=>130 | 245=>131 | 247=>143 | 279=>144 | 280=>145 | 281=>146 | 282=>147 | 287=>155 | 316=>156 | 171=>91 | 205=>157 | 321=>160 | 322=>161 | 243=>117 | 246=>125 | 283=>134 | 284=>135 | 285=>136 | 286=>137 | 129=>149 | 317=>148 | 318=>150 | 319=>151 | 320=>152 | 337=>158 | 338=>159 | n=>n,fun | 9=>9 | 3=>3 | 75=>114 | 76=>115 | 4=>4 | 5=>5 | 167=>186 | 37=>110 | 0=>0 | 85=>187 | 2=>2 | 168=>189 | 53=>180 | 175=>201 | 46=>170 | 210=>205 | 127=>141 | 145=>211 | 143=>209 | 21=>21 | 171=>181 | 173=>183 | 212=>193 | 51=>178 | 20=>20 | 213=>194 | 232=>212 | 233=>213 | 80=>118 | n=>n,fun | 15=>4 | 16=>5 | 17=>1 | 18=>6 | 19=>7 | n=>n⟩
theorem Tryz.laysC172:Go.Proofs.LaysC.n172 Tryz.prog Tryz.laysC172_ren:={
 mixed:=by kernel_rfl
 f129:=Tryz.func149.trans (congrArg some (by kernel_rfl))
 f171:=Tryz.func91.trans (congrArg some (by kernel_rfl))
 f172:=Tryz.func121.trans (congrArg some (by kernel_rfl))
 f205:=Tryz.func157.trans (congrArg some (by kernel_rfl))
 f243:=Tryz.func117.trans (congrArg some (by kernel_rfl))
 f244:=Tryz.func130.trans (congrArg some (by kernel_rfl))
 f245:=Tryz.func131.trans (congrArg some (by kernel_rfl))
 f246:=Tryz.func125.trans (congrArg some (by kernel_rfl))
 f247:=Tryz.func143.trans (congrArg some (by kernel_rfl))
 f279:=Tryz.func144.trans (congrArg some (by kernel_rfl))
 f280:=Tryz.func145.trans (congrArg some (by kernel_rfl))
 f281:=Tryz.func146.trans (congrArg some (by kernel_rfl))
 f282:=Tryz.func147.trans (congrArg some (by kernel_rfl))
 f283:=Tryz.func134.trans (congrArg some (by kernel_rfl))
 f284:=Tryz.func135.trans (congrArg some (by kernel_rfl))
 f285:=Tryz.func136.trans (congrArg some (by kernel_rfl))
 f286:=Tryz.func137.trans (congrArg some (by kernel_rfl))
 f287:=Tryz.func155.trans (congrArg some (by kernel_rfl))
 f316:=Tryz.func156.trans (congrArg some (by kernel_rfl))
 f317:=Tryz.func148.trans (congrArg some (by kernel_rfl))
 f318:=Tryz.func150.trans (congrArg some (by kernel_rfl))
 f319:=Tryz.func151.trans (congrArg some (by kernel_rfl))
 f320:=Tryz.func152.trans (congrArg some (by kernel_rfl))
 f321:=Tryz.func160.trans (congrArg some (by kernel_rfl))
 f322:=Tryz.func161.trans (congrArg some (by kernel_rfl))
 f337:=Tryz.func158.trans (congrArg some (by kernel_rfl))
 f338:=Tryz.func159.trans (congrArg some (by kernel_rfl))
 t0:=Tryz.underlying0
 a0:=Tryz.isAgg0
 z0:=Tryz.sizeOf0
 v0:=Tryz.zeroValue0
 t2:=Tryz.underlying2
 a2:=Tryz.isAgg2
 z2:=Tryz.sizeOf2
 v2:=Tryz.zeroValue2
 t3:=Tryz.underlying3
 a3:=Tryz.isAgg3
 z3:=Tryz.sizeOf3
 v3:=Tryz.zeroValue3
 t4:=Tryz.underlying4
 a4:=Tryz.isAgg4
 z4:=Tryz.sizeOf4
 v4:=Tryz.zeroValue4
 t5:=Tryz.underlying5
 a5:=Tryz.isAgg5
 z5:=Tryz.sizeOf5
 v5:=Tryz.zeroValue5
 t9:=Tryz.underlying9
 a9:=Tryz.isAgg9
 z9:=Tryz.sizeOf9
 v9:=Tryz.zeroValue9
 t20:=Tryz.underlying20
 a20:=Tryz.isAgg20
 z20:=Tryz.sizeOf20
 v20:=Tryz.zeroValue20
 t21:=Tryz.underlying21
 a21:=Tryz.isAgg21
 z21:=Tryz.sizeOf21
 v21:=Tryz.zeroValue21
 t37:=Tryz.underlying110
 a37:=Tryz.isAgg110
 z37:=Tryz.sizeOf110
 v37:=Tryz.zeroValue110
 t46:=Tryz.underlying170
 a46:=Tryz.isAgg170
 z46:=Tryz.sizeOf170
 v46:=Tryz.zeroValue170
 t51:=Tryz.underlying178
 a51:=Tryz.isAgg178
 z51:=Tryz.sizeOf178
 v51:=Tryz.zeroValue178
 t53:=Tryz.underlying180
 a53:=Tryz.isAgg180
 z53:=Tryz.sizeOf180
 v53:=Tryz.zeroValue180
 t75:=Tryz.underlying114
 a75:=Tryz.isAgg114
 z75:=Tryz.sizeOf114
 v75:=Tryz.zeroValue114
 t76:=Tryz.underlying115
 a76:=Tryz.isAgg115
 z76:=Tryz.sizeOf115
 v76:=Tryz.zeroValue115
 t85:=Tryz.underlying187
 a85:=Tryz.isAgg187
 z85:=Tryz.sizeOf187
 v85:=Tryz.zeroValue187
 t127:=Tryz.underlying141
 a127:=Tryz.isAgg141
 z127:=Tryz.sizeOf141
 v127:=Tryz.zeroValue141
 t143:=Tryz.underlying209
 a143:=Tryz.isAgg209
 z143:=Tryz.sizeOf209
 v143:=Tryz.zeroValue209
 t145:=Tryz.underlying211
 a145:=Tryz.isAgg211
 z145:=Tryz.sizeOf211
 v145:=Tryz.zeroValue211
 t167:=Tryz.underlying186
 a167:=Tryz.isAgg186
 z167:=Tryz.sizeOf186
 v167:=Tryz.zeroValue186
 t168:=Tryz.underlying189
 a168:=Tryz.isAgg189
 z168:=Tryz.sizeOf189
 v168:=Tryz.zeroValue189
 t171:=Tryz.underlying181
 a171:=Tryz.isAgg181
 z171:=Tryz.sizeOf181
 v171:=Tryz.zeroValue181
 t173:=Tryz.underlying183
 a173:=Tryz.isAgg183
 z173:=Tryz.sizeOf183
 v173:=Tryz.zeroValue183
 t175:=Tryz.underlying201
 a175:=Tryz.isAgg201
 z175:=Tryz.sizeOf201
 v175:=Tryz.zeroValue201
 t210:=Tryz.underlying205
 a210:=Tryz.isAgg205
 z210:=Tryz.sizeOf205
 v210:=Tryz.zeroValue205
 t212:=Tryz.underlying193
 a212:=Tryz.isAgg193
 z212:=Tryz.sizeOf193
 v212:=Tryz.zeroValue193
 t213:=Tryz.underlying194
 a213:=Tryz.isAgg194
 z213:=Tryz.sizeOf194
 t232:=Tryz.underlying212
 a232:=Tryz.isAgg212
 z232:=Tryz.sizeOf212
 v232:=Tryz.zeroValue212
 t233:=Tryz.underlying213
 a233:=Tryz.isAgg213
 z233:=Tryz.sizeOf213
 v233:=Tryz.zeroValue213
 g15:=by kernel_rfl
 g16:=by kernel_rfl
 g17:=by kernel_rfl
 g18:=by kernel_rfl
 g19:=by kernel_rfl
 t80:=Tryz.underlying118
 a80:=Tryz.isAgg118
 z80:=Tryz.sizeOf118
 v80:=Tryz.zeroValue118
 i0:=by kernel_rfl
 i2:=by kernel_rfl
 i3:=by kernel_rfl
 i4:=by kernel_rfl
 i5:=by kernel_rfl
 i9:=by kernel_rfl
 i20:=by kernel_rfl
 i21:=by kernel_rfl
 i37:=by kernel_rfl
 i46:=by kernel_rfl
 i51:=by kernel_rfl
 i53:=by kernel_rfl
 i75:=by kernel_rfl
 i76:=by kernel_rfl
 i80:=by kernel_rfl
 i85:=by kernel_rfl
 i127:=by kernel_rfl
 i143:=by kernel_rfl
 i145:=by kernel_rfl
 i167:=by kernel_rfl
 i168:=by kernel_rfl
 i171:=by kernel_rfl
 i173:=by kernel_rfl
 i175:=by kernel_rfl
 i210:=by kernel_rfl
 i212:=by kernel_rfl
 i232:=by kernel_rfl
 i233:=by kernel_rfl
 m15:=by kernel_rfl
 m16:=by kernel_rfl
 m17:=by kernel_rfl
 m18:=by kernel_rfl
 m19:=by kernel_rfl
 c0:=by kernel_rfl
 c2:=by kernel_rfl
 c3:=by kernel_rfl
 c4:=by kernel_rfl
 c5:=by kernel_rfl
 c9:=by kernel_rfl
 c20:=by kernel_rfl
 c21:=by kernel_rfl
 c37:=by kernel_rfl
 c46:=by kernel_rfl
 c51:=by kernel_rfl
 c53:=by kernel_rfl
 c75:=by kernel_rfl
 c76:=by kernel_rfl
 c80:=by kernel_rfl
 c85:=by kernel_rfl
 c127:=by kernel_rfl
 c143:=by kernel_rfl
 c145:=by kernel_rfl
 c167:=by kernel_rfl
 c168:=by kernel_rfl
 c171:=by kernel_rfl
 c173:=by kernel_rfl
 c175:=by kernel_rfl
 c210:=by kernel_rfl
 c212:=by kernel_rfl
 c213:=by kernel_rfl
 c232:=by kernel_rfl
 c233:=by kernel_rfl }
open Go.RowKit in
theorem Tryz.strconv_Atoi_ok (s:ByteArray) (hmax:s.size≤9223372036854775806) (v:Int) (h:Lib.atoiAll s.data.toList=.ok v) (w:World) :
  Calls Tryz.prog 121 #[.string s] w fun e w'=>e=.returned (.tuple #[.int .i64 v,.nilIface])∧(w'=w∨∃ t,w'=Lib.bytesWorld w 5 t):=Any.strconv_Atoi_ok Tryz.laysC172 s hmax v h w
open Go.RowKit in
theorem Tryz.strconv_Atoi_syntax (s:ByteArray) (hlim:s.size≤281474976710656) (h:Lib.atoiAll s.data.toList=Go.Lib.NumEnd.syntax) (ev:Value) (w:World) (hv:w.cell? ⟨4,0,none⟩=some ev) (hev:ev=.nilIface∨∃ te pe,ev=.iface te pe) :
  Calls Tryz.prog 121 #[.string s] w fun e w'=>∃ N,e=.returned (.tuple #[.int .i64 (0),.iface 189 (.pointer (some ⟨N,0,none⟩))])∧w.heap.size≤N∧w'.heap[N]?=some (.cells #[.string ⟨#[65,116,111,105]⟩,.string s,ev] 205 (0,0))∧Below w.heap.size w w':=Any.strconv_Atoi_syntax Tryz.laysC172 s hlim h ev w hv hev
open Go.RowKit in
theorem Tryz.strconv_Atoi_range (s:ByteArray) (hlim:s.size≤281474976710656) (h:Lib.atoiAll s.data.toList=.range) (ev:Value) (w:World) (hv:w.cell? ⟨5,0,none⟩=some ev) (hev:ev=.nilIface∨∃ te pe,ev=.iface te pe) :
  Calls Tryz.prog 121 #[.string s] w fun e w'=>∃ N,e=.returned (.tuple #[.int .i64 (Lib.atoiSat s.data.toList),.iface 189 (.pointer (some ⟨N,0,none⟩))])∧w.heap.size≤N∧w'.heap[N]?=some (.cells #[.string ⟨#[65,116,111,105]⟩,.string s,ev] 205 (0,0))∧Below w.heap.size w w':=Any.strconv_Atoi_range Tryz.laysC172 s hlim h ev w hv hev
def Tryz.lays146_ren:Go.Shelf.Ren:=⟨fun | 146=>62 | 221=>94 | 268=>118 | 138=>119 | 143=>120 | 195=>126 | 197=>127 | 218=>128 | 219=>129 | 260=>138 | 217=>139 | 225=>140 | 224=>141 | 267=>142 | 266=>153 | 314=>154 | n=>n,fun | 9=>9 | 31=>124 | 3=>3 | 4=>4 | 0=>0 | 105=>173 | 21=>21 | 5=>5 | 46=>170 | 119=>195 | 139=>198 | 138=>197 | 146=>199 | 51=>178 | n=>n,fun | 1=>0 | 3=>2 | 4=>3 | n=>n⟩
theorem Tryz.lays146:Go.Proofs.Lays.n146 Tryz.prog Tryz.lays146_ren:={
 mixed:=by kernel_rfl
 f138:=Tryz.func119.trans (congrArg some (by kernel_rfl))
 f143:=Tryz.func120.trans (congrArg some (by kernel_rfl))
 f146:=Tryz.func62.trans (congrArg some (by kernel_rfl))
 f195:=Tryz.func126.trans (congrArg some (by kernel_rfl))
 f197:=Tryz.func127.trans (congrArg some (by kernel_rfl))
 f217:=Tryz.func139.trans (congrArg some (by kernel_rfl))
 f218:=Tryz.func128.trans (congrArg some (by kernel_rfl))
 f219:=Tryz.func129.trans (congrArg some (by kernel_rfl))
 f221:=Tryz.func94.trans (congrArg some (by kernel_rfl))
 f224:=Tryz.func141.trans (congrArg some (by kernel_rfl))
 f225:=Tryz.func140.trans (congrArg some (by kernel_rfl))
 f260:=Tryz.func138.trans (congrArg some (by kernel_rfl))
 f266:=Tryz.func153.trans (congrArg some (by kernel_rfl))
 f267:=Tryz.func142.trans (congrArg some (by kernel_rfl))
 f268:=Tryz.func118.trans (congrArg some (by kernel_rfl))
 f314:=Tryz.func154.trans (congrArg some (by kernel_rfl))
 t0:=Tryz.underlying0
 a0:=Tryz.isAgg0
 z0:=Tryz.sizeOf0
 v0:=Tryz.zeroValue0
 t3:=Tryz.underlying3
 a3:=Tryz.isAgg3
 z3:=Tryz.sizeOf3
 v3:=Tryz.zeroValue3
 t4:=Tryz.underlying4
 a4:=Tryz.isAgg4
 z4:=Tryz.sizeOf4
 v4:=Tryz.zeroValue4
 t5:=Tryz.underlying5
 a5:=Tryz.isAgg5
 z5:=Tryz.sizeOf5
 v5:=Tryz.zeroValue5
 t9:=Tryz.underlying9
 a9:=Tryz.isAgg9
 z9:=Tryz.sizeOf9
 v9:=Tryz.zeroValue9
 t21:=Tryz.underlying21
 a21:=Tryz.isAgg21
 z21:=Tryz.sizeOf21
 v21:=Tryz.zeroValue21
 t31:=Tryz.underlying124
 a31:=Tryz.isAgg124
 z31:=Tryz.sizeOf124
 v31:=Tryz.zeroValue124
 t46:=Tryz.underlying170
 a46:=Tryz.isAgg170
 z46:=Tryz.sizeOf170
 v46:=Tryz.zeroValue170
 t51:=Tryz.underlying178
 a51:=Tryz.isAgg178
 z51:=Tryz.sizeOf178
 v51:=Tryz.zeroValue178
 t105:=Tryz.underlying173
 a105:=Tryz.isAgg173
 z105:=Tryz.sizeOf173
 v105:=Tryz.zeroValue173
 t119:=Tryz.underlying195
 a119:=Tryz.isAgg195
 z119:=Tryz.sizeOf195
 t138:=Tryz.underlying197
 a138:=Tryz.isAgg197
 z138:=Tryz.sizeOf197
 v138:=Tryz.zeroValue197
 t139:=Tryz.underlying198
 a139:=Tryz.isAgg198
 z139:=Tryz.sizeOf198
 v139:=Tryz.zeroValue198
 t146:=Tryz.underlying199
 a146:=Tryz.isAgg199
 z146:=Tryz.sizeOf199
 v146:=Tryz.zeroValue199
 g1:=by kernel_rfl
 g3:=by kernel_rfl
 g4:=by kernel_rfl }
open Go.RowKit Go.Lib in
theorem Tryz.strings_Split (s sep:ByteArray) (m:Int) (w:World) (hs:s.size < 4294967281) (hm:w.cell? ⟨0,0,none⟩=some (.int .i64 m)) (h1:1≤sep.size) :
  Calls Tryz.prog 62 #[.string s,.string sep] w fun e w' =>
   e=.returned (.slice (some ⟨w.heap.size,0,none⟩) (Lib.countB s sep+1) (Lib.countB s sep+1))∧w'=w.alloc (.cells ((Lib.splitB sep 0 (Lib.countB s sep) s).map Value.string).toArray 9):=Any.strings_Split Tryz.lays146 (by kernel_rfl) s sep m w hs hm h1
def Tryz.lays229_ren:Go.Shelf.Ren:=⟨fun | 229=>63 | n=>n,fun | 9=>9 | 40=>127 | 31=>124 | 152=>143 | 3=>3 | 0=>0 | 4=>4 | 21=>21 | 154=>145 | n=>n,fun | n=>n⟩
theorem Tryz.lays229:Go.Proofs.Lays.n229 Tryz.prog Tryz.lays229_ren:={
 mixed:=by kernel_rfl
 f229:=Tryz.func63.trans (congrArg some (by kernel_rfl))
 t0:=Tryz.underlying0
 a0:=Tryz.isAgg0
 z0:=Tryz.sizeOf0
 v0:=Tryz.zeroValue0
 t3:=Tryz.underlying3
 a3:=Tryz.isAgg3
 z3:=Tryz.sizeOf3
 v3:=Tryz.zeroValue3
 t4:=Tryz.underlying4
 a4:=Tryz.isAgg4
 z4:=Tryz.sizeOf4
 v4:=Tryz.zeroValue4
 t9:=Tryz.underlying9
 a9:=Tryz.isAgg9
 z9:=Tryz.sizeOf9
 v9:=Tryz.zeroValue9
 t21:=Tryz.underlying21
 a21:=Tryz.isAgg21
 z21:=Tryz.sizeOf21
 v21:=Tryz.zeroValue21
 t31:=Tryz.underlying124
 a31:=Tryz.isAgg124
 z31:=Tryz.sizeOf124
 v31:=Tryz.zeroValue124
 t40:=Tryz.underlying127
 a40:=Tryz.isAgg127
 z40:=Tryz.sizeOf127
 v40:=Tryz.zeroValue127
 t152:=Tryz.underlying143
 a152:=Tryz.isAgg143
 z152:=Tryz.sizeOf143
 v152:=Tryz.zeroValue143
 t154:=Tryz.underlying145
 a154:=Tryz.isAgg145
 z154:=Tryz.sizeOf145
 v154:=Tryz.zeroValue145 }
open Go.RowKit Go.Lib in
theorem Tryz.strings_FieldsFunc_runes (g:Nat) (lb:Array Value) (eg:∀ args w,(callFunc g args).run Tryz.prog w=.ok (.enter g args) w) (p:Nat→Bool) (s:ByteArray) (w:World) (hs:s.size≤4294967296) (hp:PredAtRunes Tryz.prog g lb p w) :
  Calls Tryz.prog 63 #[.string s,.func (.func g) #[] lb] w fun e w'=>∃ A,e=.returned (.slice (some ⟨A,0,none⟩) (Lib.goFieldsP p s).length (Lib.goFieldsP p s).length)∧w.heap.size≤A ∧
   w'.ownsRow w.heap.size 9 1 (.slice (some ⟨A,0,none⟩) (Lib.goFieldsP p s).length (Lib.goFieldsP p s).length) (Lib.goFieldsP p s).length ((Lib.goFieldsP p s).map Value.string)∧Below w.heap.size w w':=Any.strings_FieldsFunc_runes Tryz.lays229 g lb eg p s w hs hp (by kernel_rfl) (by kernel_rfl)
end Go.Proofs
namespace Go.VE
open Go.RowKit Go.Proofs Go.Shelf
set_option maxRecDepth 100000
set_option maxHeartbeats 4000000
theorem itoa1 (w:World):Calls Tryz.prog 91 #[.int .i64 1] w fun e w'=>e=.returned (.string ⟨#[49]⟩)∧w'=w:=by
 go_enter Tryz.func91,Tryz.ntmps91
 go_wp2
 go_ret
 exact ⟨rfl,rfl⟩
theorem itoa0 (w:World):Calls Tryz.prog 91 #[.int .i64 0] w fun e w'=>e=.returned (.string ⟨#[48]⟩)∧w'=w:=by
 go_enter Tryz.func91,Tryz.ntmps91
 go_wp2
 go_ret
 exact ⟨rfl,rfl⟩
theorem itoa7 (w:World):Calls Tryz.prog 91 #[.int .i64 7] w fun e w'=>e=.returned (.string ⟨#[55]⟩)∧w'=w:=by
 go_enter Tryz.func91,Tryz.ntmps91
 go_wp2
 go_ret
 exact ⟨rfl,rfl⟩
theorem row2 (w:World) (b:Nat) (h0:w.cell? ⟨b,0,none⟩=some (.int .i64 7)) (h1:w.cell? ⟨b,1,none⟩=some (.int .i64 1)) :
  Calls Tryz.prog 55 #[.string ⟨#[119,97,110,116,115]⟩,.slice (some ⟨b,0,none⟩) 2 2] w fun e w'=>e=.returned (.string ⟨#[119,97,110,116,115,32,55,32,49,10]⟩)∧w'=w:=by
 go_enter Tryz.func55,Tryz.ntmps55
 go_wp2
 refine wp_loop_rounds 3 ?_
 rw [rounds_succ]
 go_wp2_with (go_at_call 91;refine (itoa7 _).mono ?_;rintro e w' ⟨rfl,rfl⟩)
 rw [rounds_succ]
 go_wp2_with (go_at_call 91;refine (itoa1 _).mono ?_;rintro e w' ⟨rfl,rfl⟩)
 rw [rounds_succ]
 go_wp2
 go_ret
 exact ⟨rfl,rfl⟩
theorem row3 (w:World) (b:Nat) (h0:w.cell? ⟨b,0,none⟩=some (.int .i64 7)) (h1:w.cell? ⟨b,1,none⟩=some (.int .i64 0)) (h2:w.cell? ⟨b,2,none⟩=some (.int .i64 1)) :
  Calls Tryz.prog 55 #[.string ⟨#[116,97,108,108,121]⟩,.slice (some ⟨b,0,none⟩) 3 3] w fun e w'=>e=.returned (.string ⟨#[116,97,108,108,121,32,55,32,48,32,49,10]⟩)∧w'=w:=by
 go_enter Tryz.func55,Tryz.ntmps55
 go_wp2
 refine wp_loop_rounds 4 ?_
 rw [rounds_succ]
 go_wp2_with (go_at_call 91;refine (itoa7 _).mono ?_;rintro e w' ⟨rfl,rfl⟩)
 rw [rounds_succ]
 go_wp2_with (go_at_call 91;refine (itoa0 _).mono ?_;rintro e w' ⟨rfl,rfl⟩)
 rw [rounds_succ]
 go_wp2_with (go_at_call 91;refine (itoa1 _).mono ?_;rintro e w' ⟨rfl,rfl⟩)
 rw [rounds_succ]
 go_wp2
 go_ret
 exact ⟨rfl,rfl⟩
def rhoB:Ren:=⟨fun x=>if x=166 then 54 else if x=240 then 90 else if x=276 then 116 else if x=169 then 56 else 0,fun x=>if x=72 then 112 else if x=70 then 109 else if x=37 then 110 else if x=164 then 164 else if x=75 then 114 else if x=127 then 141 else if x=80 then 118 else x,fun x=>x⟩
theorem lays166:Lays.n166 Tryz.prog rhoB where
 mixed:=by kernel_rfl
 f166:=by kernel_rfl
 f240:=by kernel_rfl
 f276:=by kernel_rfl
 t0:=by kernel_rfl
 a0:=fun w=>by kernel_rfl
 z0:=fun w=>by kernel_rfl
 v0:=fun w=>by kernel_rfl
 t3:=by kernel_rfl
 a3:=fun w=>by kernel_rfl
 z3:=fun w=>by kernel_rfl
 v3:=fun w=>by kernel_rfl
 t4:=by kernel_rfl
 a4:=fun w=>by kernel_rfl
 z4:=fun w=>by kernel_rfl
 v4:=fun w=>by kernel_rfl
 t9:=by kernel_rfl
 a9:=fun w=>by kernel_rfl
 z9:=fun w=>by kernel_rfl
 v9:=fun w=>by kernel_rfl
 t20:=by kernel_rfl
 a20:=fun w=>by kernel_rfl
 z20:=fun w=>by kernel_rfl
 v20:=fun w=>by kernel_rfl
 t37:=by kernel_rfl
 a37:=fun w=>by kernel_rfl
 z37:=fun w=>by kernel_rfl
 v37:=fun w=>by kernel_rfl
 t70:=by kernel_rfl
 a70:=fun w=>by kernel_rfl
 z70:=fun w=>by kernel_rfl
 v70:=fun w=>by kernel_rfl
 t72:=by kernel_rfl
 a72:=fun w=>by kernel_rfl
 z72:=fun w=>by kernel_rfl
 v72:=fun w=>by kernel_rfl
 t75:=by kernel_rfl
 a75:=fun w=>by kernel_rfl
 z75:=fun w=>by kernel_rfl
 v75:=fun w=>by kernel_rfl
 t164:=by kernel_rfl
 a164:=fun w=>by kernel_rfl
 z164:=fun w=>by kernel_rfl
 v164:=fun w=>by kernel_rfl
theorem lays169:Lays.n169 Tryz.prog rhoB where
 mixed:=by kernel_rfl
 f169:=by kernel_rfl
 t0:=by kernel_rfl
 a0:=fun w=>by kernel_rfl
 z0:=fun w=>by kernel_rfl
 v0:=fun w=>by kernel_rfl
 t3:=by kernel_rfl
 a3:=fun w=>by kernel_rfl
 z3:=fun w=>by kernel_rfl
 v3:=fun w=>by kernel_rfl
 t9:=by kernel_rfl
 a9:=fun w=>by kernel_rfl
 z9:=fun w=>by kernel_rfl
 v9:=fun w=>by kernel_rfl
 t37:=by kernel_rfl
 a37:=fun w=>by kernel_rfl
 z37:=fun w=>by kernel_rfl
 v37:=fun w=>by kernel_rfl
 t70:=by kernel_rfl
 a70:=fun w=>by kernel_rfl
 z70:=fun w=>by kernel_rfl
 v70:=fun w=>by kernel_rfl
 t72:=by kernel_rfl
 a72:=fun w=>by kernel_rfl
 z72:=fun w=>by kernel_rfl
 v72:=fun w=>by kernel_rfl
 t127:=by kernel_rfl
 a127:=fun w=>by kernel_rfl
 z127:=fun w=>by kernel_rfl
 v127:=fun w=>by kernel_rfl
theorem extraB:Builder.Extra Tryz.prog rhoB where
 sizeBuilder:=by kernel_rfl
 liesBuilder:=by kernel_rfl
 t5:=by kernel_rfl
 a5:=fun w=>by kernel_rfl
 z5:=fun w=>by kernel_rfl
 v5:=fun w=>by kernel_rfl
 infoByte:=by kernel_rfl
 cellsByte:=by kernel_rfl
 sizeByte:=by kernel_rfl
 neB5:=by decide
theorem wS (B b:Nat) (bs:List Value) (s:ByteArray) (w:World) (h:Lib.IsBuilderF 112 5 B b bs w) (hlen:bs.length+s.size≤140737488355328) (hBw:B≤w.heap.size) :
  Calls Tryz.prog 54 #[.pointer (some ⟨b,0,none⟩),.string s] w fun e w'=>e=.returned (.tuple #[.int .i64 s.size,.nilIface])∧(Lib.BuilderAtF 112 5 B b (.pointer (some ⟨b,0,none⟩)) (bs++Lib.strCells s) w'∧Below B w w'):=Any.Builder_WriteString_f lays166 extraB B b bs s w h hlen hBw
theorem wStr (B b:Nat) (l:List UInt8) (w:World) (h:Lib.IsBuilderF 112 5 B b (Lib.byteCells l) w) (hBw:B≤w.heap.size) :
  Calls Tryz.prog 56 #[.pointer (some ⟨b,0,none⟩)] w fun e w'=>e=.returned (.string ⟨l.toArray⟩)∧(Lib.IsBuilderF 112 5 B b (Lib.byteCells l) w'∧Below B w w'):=Any.Builder_String_any_f lays169 extraB B b l w h hBw
end Go.VE
namespace Go.VE
abbrev Stk:=Int×Int×Int×Int
def inn (n lo hi:Int):Bool:=decide (lo≤n)&&decide (n≤hi)
def par (n:Int):Bool:=inn n 0 5
def okS (s:Stk):Bool:=inn s.2.1 1 99 &&
 (if s.1=1∨s.1=3 then par s.2.2.1&&inn s.2.2.2 1 99999
 else if s.1=2 then decide (s.2.2.1=0)&&inn s.2.2.2 1 99999
 else if s.1=4 then decide (s.2.2.1=0)&&inn s.2.2.2 0 1 else false)
end Go.VE
namespace Go.VE
open Go.RowKit Go.Proofs
theorem s68 (n:Nat) (a b c:Int):FN (n+1) 82 [il a,il b,il c]=some (0,[.d (bl (inn a b c))]):=by
 rw [F82];by_cases h:b≤a<;>simp [G82,inn,h]
theorem s70 (n:Nat) (a b c:Int):FN (n+1) 92 [il a,il b,il c]=some (0,[.d (bl (inn a b c))]):=by
 rw [F92];by_cases h:b≤a<;>simp [G92,inn,h]
theorem s61 (n:Nat) (a:Int):FN (n+2) 33 [il a]=some (0,[.d (bl (par a))]):=by rw [F33];simp [G33,s68,par]
theorem s64 (n:Nat) (a:Int):FN (n+2) 93 [il a]=some (0,[.d (bl (par a))]):=by rw [F93];simp [G93,s70,par]
theorem s67 (n:Nat) (a:Int):FN (n+2) 86 [il a]=some (0,[.d (bl (inn a 1 99))]):=by rw [F86];simp [G86,s68]
section
variable {Fn:Nat→List D→Out} {FnD:D→List Sh→List D→Out} {m:Nat}
end
end Go.VE
namespace Go.VE
open Go.RowKit Go.Proofs
def rS (s:Stk):List D:=[il s.1,il s.2.1,il s.2.2.1,il s.2.2.2]
def dL {α:Type} (n:Nat) (f:α→List D) (o:Option (List α)):D:=dSl n (o.map (·.map f))
abbrev dS (o:Option (List Stk)):D:=dL 4 rS o
section
variable {Fn:Nat→List D→Out} {FnD:D→List Sh→List D→Out} {m:Nat}
theorem getD_map {α β:Type} (f:α→β) (o:Option (List α)):(o.map (·.map f)).getD []=(o.getD []).map f:=by cases o<;>rfl
theorem lenL {α:Type} (n:Nat) (f:α→List D) (o:Option (List α)) (k:D→Out):(real Fn FnD m).lenD (dL n f o) k=k (il (o.getD []).length):=by rw [dL,r_lenDS,getD_map,List.length_map]
theorem rowL {α:Type} {n:Nat} {f:α→List D} {o:Option (List α)} {i:Nat} {c:α} (h:(o.getD [])[i]?=some c) (hn:(f c).length=n) (k:List D→Out):(real Fn FnD m).rowD n (dL n f o) (il i) k=k (f c):=by
 rw [dL,r_rowDSg,if_pos (by omega),getD_map,Int.toNat_natCast,List.getElem?_map,h];simp [hn]
theorem rowS {o:Option (List Stk)} {i:Nat} {c:Stk} (h:(o.getD [])[i]?=some c) (k:List D→Out):(real Fn FnD m).rowD 4 (dS o) (il i) k=k (rS c):=rowL h rfl k
theorem cS0 (b:Stk):(real Fn FnD m).cell (rS b) 0=il b.1:=rfl
theorem cS1 (b:Stk):(real Fn FnD m).cell (rS b) 1=il b.2.1:=rfl
theorem cS2 (b:Stk):(real Fn FnD m).cell (rS b) 2=il b.2.2.1:=rfl
theorem cS3 (b:Stk):(real Fn FnD m).cell (rS b) 3=il b.2.2.2:=rfl
end
theorem cast1 (i:Nat):((i+1:Nat):Int)=(i:Int)+1:=by omega
end Go.VE
namespace Go.VE
open Go.RowKit Go.Proofs
theorem l66 (n:Nat) (o q:Option (List Stk)) (hl:(o.getD []).length≤4611686018427387904) (he:(o.getD []).length=(q.getD []).length) :
  loopR [L27_0 (RP n)] M0 0 [.d (dS o),.d (dS q),.d (il 0)]=if o.getD []=q.getD [] then some (1,[]) else some (0,[.d (bl false)]):=by
 have:=range_loop (β:=Unit) (o.getD []) hl (L27_0 (RP n)) (fun i _=>[.d (dS o),.d (dS q),.d (il i)]) (fun _ _=>True)
  (fun i r _=>if r=(q.getD []).drop i then some (1,[]) else some (0,[.d (bl false)]))
  (fun _ k _=>by simp [L27_0,lenL,he]) ?_ M0 () trivial (M0_big hl)
 ·simpa using this
 ·intro i e r _ k hi hd hlt hw _ ih
  have ih':=ih () trivial
  rw [cast1] at ih'
  have hlt':(i:Int) < ((o.getD []).length:Int):=by omega
  have hq:(q.getD [])[i]?=some ((q.getD [])[i]'(by omega)):=List.getElem?_eq_getElem (by omega)
  rw [List.drop_eq_getElem_cons (show i < (q.getD []).length by omega)]
  simp only [L27_0,lenL,r_ld0,r_lds,r_lss,r_cond,hlt',decide_true,if_true,rowS hi,rowS hq,cS0,cS1,cS2,cS3,r_eqs4,r_out,r_litb,r_liti,r_add,hw,List.cons.injEq]
  generalize (q.getD [])[i]'(by omega)=d
  by_cases h:e=d
  ·subst h
   simpa using ih'
  ·have h':¬ (e.1=d.1∧e.2.1=d.2.1∧e.2.2.1=d.2.2.1∧e.2.2.2=d.2.2.2):=fun ⟨a,b,c,f⟩=>h (by ext<;>assumption)
   simp [h,h']
theorem s66 (n:Nat) (o q:Option (List Stk)) (hl:(o.getD []).length≤4611686018427387904):FN (n+1) 27 [dS o,dS q]=some (0,[.d (bl (decide (o.getD []=q.getD [])))]):=by
 rw [F27]
 simp only [G27,lenL,r_neq,r_cond,r_out,r_litb,r_loop,r_liti]
 by_cases he:(o.getD []).length=(q.getD []).length
 ·rw [if_neg (by simp;omega),l66 _ _ _ hl he]
  by_cases h:o.getD []=q.getD []<;>simp [h]
 ·have h:o.getD []≠q.getD []:=fun h=>he (by rw [h])
  rw [if_pos (by simp;omega)];simp [h]
end Go.VE
namespace Go.VE
open Go.RowKit Go.Proofs
noncomputable abbrev FD (n:Nat):D→List Sh→List D→Out:=FnDof Tryz.prog (cf3 tb Tryz.prog) (FN n)
theorem FnDof_fn {P:Program} {cfg:Cf3} {Fn:Nat→List D→Out} {f:Nat} {caps:List D} {sh:List Sh} {ds:List D} {vs:List VD} (h3:f < 2000000) (hv:vdsOf sh ds=some vs):FnDof P cfg Fn (.fn f caps) sh ds=FnV cfg Fn f (vs++caps.map .one):=by
 simp only [FnDof,hv,if_pos h3]
theorem FD_gen {T:Tb3} {P:Program} {Fn:Nat→List D→Out} {f:Nat} {caps:List D} {sh sh':List Sh} {ds:List D} {vs:List VD} {xs:List D} {z:D} (hlt:f < 1000000) (hv:vdsOf sh ds=some vs) (hash:T.ash f=some sh') (hx:flatV sh' (vs++caps.map .one)=some xs)
  (hr:T.rsk f=[[(false,[.d])]]) (hf:Fn f xs=some (0,[.d z])):FnDof P (cf3 T P) Fn (.fn f caps) sh ds=some (0,[.d z]):=by
 have h1:(cf3 T P).ash f=some sh':=by simp only [cf3,if_pos hlt,hash]
 have h2:isOneD ((cf3 T P).rsk f)=true:=by simp only [cf3,hr];rfl
 have h3:f < 2000000:=Nat.lt_of_lt_of_le hlt (by decide)
 rw [FnDof_fn h3 hv]
 simp only [FnV,h1,hx,h2,if_true,hf]
theorem FD_fn {n f:Nat} {caps:List D} {sh:List Sh} (sh':List Sh) {ds:List D} (vs:List VD) {xs:List D} {z:D} (hlt:f < 1000000) (hv:vdsOf sh ds=some vs) (hash:tb.ash f=some sh') (hx:flatV sh' (vs++caps.map .one)=some xs)
  (hr:tb.rsk f=[[(false,[.d])]]) (hf:FN n f xs=some (0,[.d z])):FD n (.fn f caps) sh ds=some (0,[.d z]):=FD_gen hlt hv hash hx hr hf
theorem s107 (n:Nat) (s:Stk):FN (n+3) 53 [il s.1,il s.2.1,il s.2.2.1,il s.2.2.2]=some (0,[.d (bl (okS s))]):=by
 rw [F53]
 simp only [G53,r_call,s67,r_bnd0,r_ld0,r_liti,r_litb,r_not,r_cond,r_eql,r_out,okS,decide_eq_true_eq]
 by_cases h0:inn s.2.1 1 99=true
 ·by_cases h1:s.1=1
  ·by_cases h:par s.2.2.1=true<;>simp [h0,h1,h,s61,s68]
  ·by_cases h3:s.1=3
   ·by_cases h:par s.2.2.1=true<;>simp [h0,h3,h,s61,s68]
   ·by_cases h2:s.1=2
    ·by_cases h:s.2.2.1=0<;>simp [h0,h2,h,s61,s68]
    ·by_cases h4:s.1=4
     ·by_cases h:s.2.2.1=0<;>simp [h0,h4,h,s61,s68]
     ·simp [h0,h1,h2,h3,h4]
 ·simp [h0]
theorem s73 (n:Nat) (s:Stk):FN (n+3) 57 [il s.1,il s.2.1,il s.2.2.1,il s.2.2.2]=some (0,[.d (bl (okS s))]):=by
 rw [F57]
 simp only [G57,r_call,s70,r_bnd0,r_ld0,r_liti,r_litb,r_not,r_cond,r_eql,r_out,okS,decide_eq_true_eq]
 by_cases h0:inn s.2.1 1 99=true
 ·by_cases h1:s.1=1
  ·by_cases h:par s.2.2.1=true<;>simp [h0,h1,h,s64,s70]
  ·by_cases h3:s.1=3
   ·by_cases h:par s.2.2.1=true<;>simp [h0,h3,h,s64,s70]
   ·by_cases h2:s.1=2
    ·by_cases h:s.2.2.1=0<;>simp [h0,h2,h,s64,s70]
    ·by_cases h4:s.1=4
     ·by_cases h:s.2.2.1=0<;>simp [h0,h4,h,s64,s70]
     ·simp [h0,h1,h2,h3,h4]
 ·simp [h0]
end Go.VE
namespace Go.VE
open Go.RowKit Go.Proofs
abbrev sd (l:List UInt8):D:=.lit (.string ⟨l.toArray⟩)
abbrev ub (b:UInt8):D:=.lit (.int .u8 b.toNat)
section
variable {Fn:Nat→List D→Out} {FnD:D→List Sh→List D→Out} {m:Nat}
theorem r_litSe:(real Fn FnD m).lit (.string ByteArray.empty)=sd []:=rfl
theorem r_litSs (l:List UInt8):(real Fn FnD m).lit (.string ⟨l.toArray⟩)=sd l:=rfl
theorem r_litU (n:Int):(real Fn FnD m).lit (.int .u8 n)=.lit (.int .u8 n):=rfl
theorem bs_size (l:List UInt8):(⟨l.toArray⟩:ByteArray).size=l.length:=by simp [ByteArray.size]
theorem bs_list (s:ByteArray):s=⟨s.data.toList.toArray⟩:=by cases s;simp
theorem bs_toList (l:List UInt8):(⟨l.toArray⟩:ByteArray).toList=l:=by
 exact ByteArray.toList_mk l
theorem r_lenSs (l:List UInt8) (k:D→Out):(real Fn FnD m).lenS (sd l) k=k (il l.length):=by simp [real,il,bs_size]
theorem bs_get (l:List UInt8) (i:Nat):(⟨l.toArray⟩:ByteArray)[i]?=l[i]?:=by
 by_cases h:i < l.length
 ·rw [getElem?_pos (⟨l.toArray⟩:ByteArray) i (by rw [bs_size];exact h),getElem?_pos l i h];rfl
 ·rw [getElem?_neg (⟨l.toArray⟩:ByteArray) i (by rw [bs_size];exact h),getElem?_neg l i h]
theorem r_atSs {l:List UInt8} {i:Nat} {b:UInt8} (h:l[i]?=some b) (k:D→Out):(real Fn FnD m).atS (sd l) (il i) k=k (ub b):=by
 simp [real,il,intD,strAt,bs_get,h]
theorem bs_cut (l:List UInt8) (a b:Nat):(⟨l.toArray⟩:ByteArray).extract a b=⟨((l.drop a).take (b - a)).toArray⟩:=by
 rw [bs_list (ByteArray.extract _ _ _),Lib.extract_data]
theorem r_cutSs {l:List UInt8} {a b:Nat} (h1:a≤b) (h2:b≤l.length) (k:D→Out):(real Fn FnD m).cutS (sd l) (some (il a)) (some (il b)) k=k (sd ((l.drop a).take (b - a))):=by
 simp [real,il,oIntD,intD,strCut,bs_size,bs_cut,h1,h2]
theorem r_cutSe {l:List UInt8} {a:Nat} (h1:a≤l.length) (k:D→Out):(real Fn FnD m).cutS (sd l) (some (il a)) none k=k (sd (l.drop a)):=by
 have:(l.drop a).take (l.length - a)=l.drop a:=List.take_of_length_le (by simp)
 simp [real,il,oIntD,intD,strCut,bs_size,bs_cut,h1,this]
theorem r_strB1 (n:Int) (k:D→Out):(real Fn FnD m).strB [[.lit (.int .u8 n)]] k=k (sd [UInt8.ofNat n.toNat]):=by
 rfl
theorem r_addSs {a b:List UInt8} (h:a.length+b.length≤9223372036854775807) (f:Bool) (k:D→Out):(real Fn FnD m).bin .add f (sd a) (sd b) k=k (sd (a++b)):=by
 have e:(⟨a.toArray⟩:ByteArray)++⟨b.toArray⟩=⟨(a++b).toArray⟩:=by
  rw [bs_list (_++_)]
  simp
 have h':¬ ((((⟨a.toArray⟩:ByteArray).size+(⟨b.toArray⟩:ByteArray).size:Nat):Int) > IntKind.i64.max):=by
  rw [bs_size,bs_size]
  have:IntKind.i64.max=9223372036854775807:=by decide
  omega
 simp only [real,binD,aStr,if_neg h',Option.map_some,e,optO]
theorem r_neqSs (a b:List UInt8) (f:Bool) (k:D→Out):(real Fn FnD m).bin .neq f (sd a) (sd b) k=k (bl (!decide (a=b))):=by
 have:(a==b)=decide (a=b):=by rw [Bool.eq_iff_iff];simp
 simp only [real,binD,aStr,Option.map_some,optO,bs_toList,bl,this]
theorem r_eqlU (b c:UInt8) (f:Bool) (k:D→Out):(real Fn FnD m).bin .eql f (ub b) (ub c) k=k (bl (decide (b=c))):=by
 have:((b.toNat:Int)==(c.toNat:Int))=decide (b=c):=by
  rw [Bool.eq_iff_iff]
  simp only [beq_iff_eq,decide_eq_true_eq]
  rw [←UInt8.toNat_inj];omega
 simp only [real,binD,aBin,optO,bl,Option.map_some]
 simp [this]
theorem r_eqlU10 (b:UInt8) (f:Bool) (k:D→Out):(real Fn FnD m).bin .eql f (ub b) (.lit (.int .u8 10)) k=k (bl (decide (b=10))):=r_eqlU b 10 f k
theorem r_eqlU35 (b:UInt8) (f:Bool) (k:D→Out):(real Fn FnD m).bin .eql f (ub b) (.lit (.int .u8 35)) k=k (bl (decide (b=35))):=r_eqlU b 35 f k
theorem r_eqlU48 (b:UInt8) (f:Bool) (k:D→Out):(real Fn FnD m).bin .eql f (ub b) (.lit (.int .u8 48)) k=k (bl (decide (b=48))):=r_eqlU b 48 f k
theorem r_neqU32 (b:UInt8) (f:Bool) (k:D→Out):(real Fn FnD m).bin .neq f (ub b) (.lit (.int .u8 32)) k=k (bl (!decide (b=32))):=by
 have:((b.toNat:Int) != 32)=!decide (b=32):=by
  rw [Bool.eq_iff_iff]
  simp only [bne_iff_ne,Bool.not_eq_true',decide_eq_false_iff_not,ne_eq]
  rw [←UInt8.toNat_inj];simp;omega
 simp only [real,binD,aBin,optO,bl,Option.map_some]
 simp [this]
end
end Go.VE
namespace Go.VE
open Go.RowKit Go.Proofs
set_option maxRecDepth 100000
theorem wrap8 {n:Nat} (h:n < 256):IntKind.u8.wrap (n:Int)=n:=by
 simp only [IntKind.wrap,IntKind.signed,IntKind.bits]
 simp
 omega
theorem r_cvU {Fn:Nat→List D→Out} {FnD:D→List Sh→List D→Out} {m:Nat} {n:Nat} (h:n < 256) (k:D→Out):(real Fn FnD m).cvI .u8 (il n) k=k (.lit (.int .u8 n)):=by
 simp only [real,il,wrap8 h]
theorem dec_last (v:Nat) (h:¬ v < 10):Lib.decDigits v=Lib.decDigits (v / 10)++[UInt8.ofNat (48+v % 10)]:=by rw [Lib.decDigits,dif_neg h]
theorem ten0:(10:Int)≠0:=by decide
def digQ (u:Nat) (o:Out):Prop:=∃ (d:Nat) (acc:List UInt8),d < 10∧Lib.decDigits d++acc=Lib.decDigits u∧o=some (0,[.d (il d),.d (sd acc)])
theorem l59 (n u:Nat) (hu:u < 1000000000000000000):digQ u (loopR [L59_0 (RP n)] M0 0 [.d (il u),.d (sd [])]):=by
 refine loop_pr (σ:=Nat×List UInt8) [L59_0 (RP n)] (fun s=>(0,[.d (il s.1),.d (sd s.2)])) (fun s=>s.1) (fun s=>s.1≤u∧s.2.length+s.1≤u∧Lib.decDigits s.1++s.2=Lib.decDigits u) (digQ u) ?_ M0 (u,[]) ⟨Nat.le_refl _,by simp,by simp⟩ (by simp only [M0];omega)
 rintro ⟨v,acc⟩ k ⟨h1,h2,h3⟩ ih
 simp only at h1 h2 h3 ih ⊢
 refine ⟨_,rfl,?_⟩
 by_cases h:v < 10
 ·refine ⟨v,acc,h,h3,?_⟩
  have:¬ (9:Int) < (v:Int):=by omega
  simp [L59_0,this]
 ·have h9:(9:Int) < (v:Int):=by omega
  have hlt:v / 10 < v:=by omega
  have e1:(v:Int).tmod 10=((v % 10:Nat):Int):=by rw [Int.tmod_eq_emod_of_nonneg (by omega)];rfl
  have e2:(v:Int).tdiv 10=((v / 10:Nat):Int):=by rw [Int.tdiv_eq_ediv_of_nonneg (by omega)];rfl
  have w1:IntKind.i64.wrap (48+((v % 10:Nat):Int))=((48+v % 10:Nat):Int):=by rw [wrap_id (by omega) (by omega)];omega
  have w2:IntKind.i64.wrap ((v / 10:Nat):Int)=((v / 10:Nat):Int):=wrap_id (by omega) (by omega)
  have hl:([UInt8.ofNat (48+v % 10)]:List UInt8).length+acc.length≤9223372036854775807:=by simp;omega
  have key:=ih (v / 10,UInt8.ofNat (48+v % 10)::acc) ⟨by simp only;omega,by simp only [List.length_cons];omega,by
   rw [←h3,dec_last v h];simp⟩ hlt
  have e:L59_0 (RP n) k [.d (il v),.d (sd acc)]=k 0 [.d (il ((v / 10:Nat):Int)),.d (sd (UInt8.ofNat (48+v % 10)::acc))]:=by
   simp only [L59_0,r_ld0,r_lds,r_liti,r_gtr,h9,decide_true,r_cond,if_true,r_natN,r_rem _ _ _ _ ten0,e1,r_add,w1,r_cvU (show 48+v % 10 < 256 by omega),r_rows,r_len,r_natN,List.length_cons,List.length_nil,r_eqN,Nat.zero_add,r_seg0,List.take_succ_cons,List.take_zero,r_strB1,Int.toNat_natCast,r_addSs hl,r_quo _ _ _ _ ten0,e2,w2,List.singleton_append]
  rw [e]
  exact key
theorem s59 (n u:Nat) (hu:u < 1000000000000000000):FN (n+1) 59 [il u]=some (0,[.d (sd (Lib.decDigits u))]):=by
 rw [F59]
 obtain ⟨d,acc,hd,h1,h2⟩:=l59 n u hu
 have w1:IntKind.i64.wrap (48+(d:Int))=((48+d:Nat):Int):=by rw [wrap_id (by omega) (by omega)];omega
 have hda:Lib.decDigits d=[UInt8.ofNat (48+d)]:=by rw [Lib.decDigits,dif_pos hd]
 rw [hda] at h1
 have hl:([UInt8.ofNat (48+d)]:List UInt8).length+acc.length≤9223372036854775807:=by
  have e:=congrArg List.length h1
  have:(Lib.decDigits u).length≤9223372036854775807:=by
   have:∀ k v,v < 10 ^ (k+1)→(Lib.decDigits v).length≤k+1:=by
    intro k
    induction k with
    | zero=>intro v hv;rw [Lib.decDigits,dif_pos (by simpa using hv)];simp
    | succ k ih =>
     intro v hv
     by_cases h:v < 10
     ·rw [Lib.decDigits,dif_pos h];simp
     ·rw [dec_last v h,List.length_append]
      have:=ih (v / 10) (by rw [Nat.pow_succ] at hv;omega)
      simp only [List.length_cons,List.length_nil];omega
   have:=this 17 u (by omega)
   omega
  simp only [List.length_append,List.length_cons,List.length_nil] at e ⊢
  omega
 simp only [G59,r_litSe,r_loop,h2,r_bnd0,r_ld0,r_lds,r_liti,r_add,w1,r_cvU (show 48+d < 256 by omega),r_rows,r_len,r_natN,List.length_cons,List.length_nil,r_eqN,Nat.zero_add,if_true,r_seg0,List.take_succ_cons,List.take_zero,r_strB1,Int.toNat_natCast,r_addSs hl,r_out,h1]
def tallyW:List UInt8:=[116,97,108,108,121]
def wantsW:List UInt8:=[119,97,110,116,115]
def askedW:List UInt8:=[97,115,107,101,100]
def bellW:List UInt8:=[98,101,108,108]
theorem s58 (n:Nat):FN (n+1) 58 []=some (0,[.d (sd []),.d (sd tallyW),.d (sd wantsW),.d (sd askedW),.d (sd bellW)]):=by
 rw [F58];rfl
def two2 (k:Int):Bool:=decide (k=1∨k=3)
theorem s60 (n:Nat) (k:Int):FN (n+1) 60 [il k]=some (0,[.d (bl (two2 k))]):=by
 rw [F60]
 by_cases h:k=1
 ·simp [G60,h,two2]
 ·by_cases h3:k=3<;>simp [G60,h,h3,two2]
end Go.VE
namespace Go.VE
open Go.RowKit Go.Proofs
set_option maxRecDepth 100000
theorem dec_len:∀ (k v:Nat),v < 10 ^ (k+1)→(Lib.decDigits v).length≤k+1
 | 0,v,hv=>by rw [Lib.decDigits,dif_pos (by simpa using hv)];simp
 | k+1,v,hv=>by
  by_cases h:v < 10
  ·rw [Lib.decDigits,dif_pos h];simp
  ·rw [dec_last v h,List.length_append]
   have:=dec_len k (v / 10) (by rw [Nat.pow_succ] at hv;omega)
   simp only [List.length_cons,List.length_nil];omega
def nameOf (k:Int):List UInt8:=if k=1 then tallyW else if k=2 then wantsW else if k=3 then askedW else bellW
def dcN (z:Int):List UInt8:=Lib.decDigits z.toNat
def lineOf (s:Stk):List UInt8:=((nameOf s.1++[32])++dcN s.2.1)++((if two2 s.1=true then [32]++dcN s.2.2.1 else [])++(([32]++dcN s.2.2.2)++[10]))
def prt (l:List Stk):List UInt8:=l.flatMap lineOf
theorem okS_cases {s:Stk} (h:okS s=true):(1≤s.2.1∧s.2.1≤99)∧(0≤s.2.2.1∧s.2.2.1≤5)∧(0≤s.2.2.2∧s.2.2.2≤99999)∧(s.1=1∨s.1=2∨s.1=3∨s.1=4)∧(two2 s.1=false→s.2.2.1=0):=by
 simp only [okS,Bool.and_eq_true,inn,decide_eq_true_eq] at h
 obtain ⟨h1,h2⟩:=h
 refine ⟨h1,?_⟩
 split at h2
 ·rename_i hk
  simp only [Bool.and_eq_true,par,inn,decide_eq_true_eq] at h2
  refine ⟨by omega,by omega,by omega,fun h=>?_⟩
  simp [two2,hk] at h
 ·split at h2
  ·simp only [Bool.and_eq_true,decide_eq_true_eq] at h2
   exact ⟨by omega,by omega,by omega,fun _=>by omega⟩
  ·split at h2
   ·simp only [Bool.and_eq_true,decide_eq_true_eq] at h2
    exact ⟨by omega,by omega,by omega,fun _=>by omega⟩
   ·cases h2
theorem nameOf_len (k:Int):(nameOf k).length≤5:=by unfold nameOf;split;decide;split;decide;split;decide;decide
theorem lineOf_len {s:Stk} (h:okS s=true):(lineOf s).length≤24:=by
 obtain ⟨h1,h2,h3,h4,_⟩:=okS_cases h
 have a:=nameOf_len s.1
 have b:=dec_len 1 s.2.1.toNat (by omega)
 have c:=dec_len 0 s.2.2.1.toNat (by omega)
 have d:=dec_len 4 s.2.2.2.toNat (by omega)
 unfold lineOf
 split<;>simp only [dcN,List.length_append,List.length_cons,List.length_nil]<;>omega
theorem nm_sel {k:Int} (h:k=1∨k=2∨k=3∨k=4):([sd [],sd tallyW,sd wantsW,sd askedW,sd bellW]:List D).getD k.toNat default=sd (nameOf k)∧0≤k∧k < 5:=by
 rcases h with rfl | rfl | rfl | rfl<;>exact ⟨rfl,by decide,by decide⟩
theorem r_selD {Fn:Nat→List D→Out} {FnD:D→List Sh→List D→Out} {m:Nat} (i:Nat) (ds:List D):(real Fn FnD m).selN i ds=ds.getD i default:=rfl
def prtR (acc:List UInt8) (r:List Stk):Out:=if r.all okS=true then some (1,[.d (sd (acc++prt r))]) else some (0,[.d (sd []),.d (il 91)])
theorem s59i (n:Nat) {z:Int} (h0:0≤z) (h1:z < 1000000):FN (n+1) 59 [il z]=some (0,[.d (sd (dcN z))]):=by
 have:=s59 n z.toNat (by omega)
 rwa [show ((z.toNat:Nat):Int)=z by omega] at this
theorem l24 (n:Nat) (o:Option (List Stk)) (hl:(o.getD []).length≤120):loopR [L24_0 (RP (n+3))] M0 0 [.d (dS o),.d (sd []),.d (il 0)]=prtR [] (o.getD []):=by
 have:=range_loop (β:=List UInt8) (o.getD []) (by omega) (L24_0 (RP (n+3))) (fun i acc=>[.d (dS o),.d (sd acc),.d (il i)]) (fun i acc=>acc.length≤24*i)
  (fun _ r acc=>prtR acc r) ?_ ?_ M0 [] (by simp) (M0_big (by omega))
 ·exact this
 ·intro acc k _
  simp only [L24_0,r_ld0,r_lds,lenL,r_lss,Int.lt_irrefl,decide_false,r_cond,Bool.false_eq_true,if_false,r_out,prtR,List.all_nil,if_true,prt,List.flatMap_nil,List.append_nil]
 ·intro i s r acc k hi hd hlt hw hI ih
  have hlt':(i:Int) < ((o.getD []).length:Int):=by omega
  by_cases hok:okS s=true
  ·obtain ⟨h1,h2,h3,h4,_⟩:=okS_cases hok
   obtain ⟨e1,e2,e3⟩:=nm_sel h4
   have a:=nameOf_len s.1
   have b:=dec_len 1 s.2.1.toNat (by omega)
   have c:=dec_len 0 s.2.2.1.toNat (by omega)
   have d:=dec_len 4 s.2.2.2.toNat (by omega)
   have g1:(nameOf s.1).length+([32]:List UInt8).length≤9223372036854775807:=by simp only [List.length_cons,List.length_nil];omega
   have g2:(nameOf s.1++[32]).length+(dcN s.2.1).length≤9223372036854775807:=by simp only [dcN,List.length_append,List.length_cons,List.length_nil];omega
   have g3:acc.length+((nameOf s.1++[32])++dcN s.2.1).length≤9223372036854775807:=by simp only [dcN,List.length_append,List.length_cons,List.length_nil];omega
   have g4:([32]:List UInt8).length+(dcN s.2.2.1).length≤9223372036854775807:=by simp only [dcN,List.length_cons,List.length_nil];omega
   have g5:(acc++((nameOf s.1++[32])++dcN s.2.1)).length+([32]++dcN s.2.2.1).length≤9223372036854775807:=by simp only [dcN,List.length_append,List.length_cons,List.length_nil];omega
   have g6:([32]:List UInt8).length+(dcN s.2.2.2).length≤9223372036854775807:=by simp only [dcN,List.length_cons,List.length_nil];omega
   have g7:([32]++dcN s.2.2.2).length+([10]:List UInt8).length≤9223372036854775807:=by simp only [dcN,List.length_append,List.length_cons,List.length_nil];omega
   have g8:(acc++((nameOf s.1++[32])++dcN s.2.1)).length+(([32]++dcN s.2.2.2)++[10]).length≤9223372036854775807:=by simp only [dcN,List.length_append,List.length_cons,List.length_nil];omega
   have g9:(acc++((nameOf s.1++[32])++dcN s.2.1)++([32]++dcN s.2.2.1)).length+(([32]++dcN s.2.2.2)++[10]).length≤9223372036854775807:=by simp only [dcN,List.length_append,List.length_cons,List.length_nil];omega
   have ih':=ih (acc++lineOf s) (by have:=lineOf_len hok;simp only [List.length_append];omega)
   have e:prtR acc (s::r)=prtR (acc++lineOf s) r:=by
    simp only [prtR,List.all_cons,hok,Bool.true_and,prt,List.flatMap_cons,List.append_assoc]
   rw [cast1] at ih'
   rw [e,← ih']
   have q1:=s59i (n+2) (z:=s.2.1) (by omega) (by omega)
   have q2:=s59i (n+2) (z:=s.2.2.1) (by omega) (by omega)
   have q3:=s59i (n+2) (z:=s.2.2.2) (by omega) (by omega)
   simp only [L24_0,r_ld0,r_lds,lenL,r_lss,hlt',decide_true,r_cond,if_true,rowS hi,cS0,cS1,cS2,cS3,r_call,s73,hok,r_bnd0,r_not,Bool.not_true,Bool.false_eq_true,if_false,s58,r_natN,r_inx _ 5 _ ⟨e2,e3⟩,r_selD,e1,r_addSs g1,q1,r_addSs g2,r_addSs g3,s60,r_litSs]
   by_cases ht:two2 s.1=true
   ·simp only [ht,if_true,r_addSs g4,r_addSs g5,q2,q3,r_bnd0,r_ld0,r_lds,r_addSs g6,r_addSs g7,r_addSs g9,r_out,r_liti,r_add,hw]
    simp only [lineOf,ht,if_true,List.append_assoc]
   ·simp only [ht,if_false,Bool.false_eq_true,q2,q3,r_bnd0,r_ld0,r_lds,r_addSs g6,r_addSs g7,r_addSs g8,r_out,r_liti,r_add,hw]
    simp only [lineOf,ht,Bool.false_eq_true,if_false,List.append_assoc,List.nil_append]
  ·have e:prtR acc (s::r)=some (0,[.d (sd []),.d (il 91)]):=by simp [prtR,hok]
   rw [e]
   simp only [L24_0,r_ld0,r_lds,lenL,r_lss,hlt',decide_true,r_cond,if_true,rowS hi,cS0,cS1,cS2,cS3,r_call,s73,hok,r_bnd0,r_not,Bool.not_false,r_litSe,r_liti,r_out]
theorem s24 (n:Nat) (o:Option (List Stk)):FN (n+4) 24 [dS o]=some (0,if (o.getD []).length≤120∧(o.getD []).all okS=true then [.d (sd (prt (o.getD []))),.d (il 0)] else [.d (sd []),.d (il 91)]):=by
 rw [F24]
 by_cases hl:(o.getD []).length≤120
 ·have:¬ (120:Int) < ((o.getD []).length:Int):=by omega
  simp only [G24,lenL,r_liti,r_gtr,this,decide_false,r_cond,Bool.false_eq_true,if_false,r_litSe,r_loop,l24 n o hl,prtR,hl,true_and]
  split
  ·simp only [r_bnd1,r_ld0,r_out,List.nil_append]
  ·simp only [r_bnd0,r_ld0,r_lds,r_out]
 ·have:(120:Int) < ((o.getD []).length:Int):=by omega
  simp only [G24,lenL,r_liti,r_gtr,this,decide_true,r_cond,if_true,r_litSe,hl,false_and,if_false,r_out]
end Go.VE
