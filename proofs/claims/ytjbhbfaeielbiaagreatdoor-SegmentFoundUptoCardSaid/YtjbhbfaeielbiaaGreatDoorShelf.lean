import Derived.Shelf.Strings.Builder1
import Derived.Shelf.Strings.Builder2
import Derived.Shelf.Small.Bits
import Derived.Shelf.Small.Wraps
import Derived.Shelf.Strings.BuilderF
import Derived.Shelf.Strings.BuilderK
import Derived.Shelf.Strings.BuilderRune
import Derived.Shelf.Utf8.AppendRunePlain
import Derived.Shelf.Strconv.Itoa0
import Derived.Shelf.Strconv.Itoa1
import Derived.Shelf.LaysM
import Derived.Shelf.Strconv.Itoa2
import Derived.Shelf.Strconv.Itoa3
import Derived.Shelf.Strconv.ParseIntEmpty
import Derived.Shelf.Strconv.Clone
import Derived.Shelf.Strconv.SyntaxError
import Derived.Shelf.LaysC
import Derived.Shelf.Strconv.ToError
import Derived.Shelf.Strconv.Lower
import Derived.Shelf.Strconv.ParseUint10
import Derived.Shelf.Strconv.ParseUint10Empty
import Derived.Shelf.Strconv.ParseUint10Any
import Derived.Shelf.Strconv.ParseInt10
import Derived.Shelf.Strconv.RangeError
import Derived.Shelf.Strconv.ToErrorRange
import Derived.Shelf.Strconv.ParseUintEmpty
import Derived.Shelf.Strconv.ParseUint10b64
import Derived.Shelf.Strconv.ParseUint10b32
import Derived.Shelf.Strconv.ParseUint10b16
import Derived.Shelf.Strconv.ParseUint10b8
import Derived.Shelf.Strconv.ParseUint10At
import Derived.Shelf.Strconv.ParseInt10At64
import Derived.Shelf.Strconv.ParseInt10At32
import Derived.Shelf.Strconv.ParseInt10At16
import Derived.Shelf.Strconv.ParseInt10At8
import Derived.Shelf.Strconv.ParseInt10All
import Derived.Shelf.Strconv.ParseIntPublic10
import Derived.Shelf.Strings.Search1
import Derived.Shelf.Strings.Search2
import Derived.Shelf.Strings.Cut
import Derived.Shelf.Strings.Shaped
import Derived.Shelf.Sort.Plain
import Derived.Shelf.GgClosure.StringsIndexFunc
import Derived.Ground.GgwProg
import Derived.Shelf.GgClosure.StringsIndexFuncTop
import Derived.Shelf.Strings.Prefix
import Derived.Shelf.Unicode.Decode
import Derived.Shelf.Bits.Mul64
import Derived.Shelf.Strings.Repeat
import Derived.Shelf.Unicode.DecodeSlow
import Derived.Shelf.Unicode.DecodeAny
import Derived.Shelf.Strings.FuncGrows
import Derived.Shelf.Slices.Turned
import Derived.Ground.Names2Prog
import Derived.Shelf.Slices.Clone
import Derived.Shelf.Slices.CompactS
import Derived.Shelf.Slices.SearchI
import Derived.Shelf.Slices.Cells
import Derived.Shelf.Slices.In.SortNone
import Derived.Ground.SlgnProg
import Derived.Shelf.SlicesE.Clone
import Derived.Ground.SlgmProg
import Derived.Shelf.SortM.Plain
import Derived.Shelf.SortM.SortNone
import Derived.Shelf.Bytes.SlEqualAll
import Derived.Shelf.Bytes.Small
import Derived.Test.YtjbhbfaeielbiaaGreatDoorProg
namespace Go.Proofs
open Go.Shelf Tryz
theorem tq {α:Type} {a:Option α} {b c:α} (h:a=some b) (e:b=c:=by kernel_rfl):a=some c:=h.trans (congrArg some e)
def Tryz.lays169_ren:Go.Shelf.Ren:=⟨fun|169=>235|n=>n,fun|70=>363|9=>9|0=>0|72=>365|37=>65|127=>405|3=>3|5=>5|n=>n,fun|n=>n⟩
theorem Tryz.lays169:Go.Proofs.Lays.n169 prog Tryz.lays169_ren:={mixed:=by kernel_rfl,f169:=tq func235,t0:=underlying0,a0:=isAgg0,z0:=sizeOf0,v0:=zeroValue0,t3:=underlying3,a3:=isAgg3,z3:=sizeOf3,v3:=zeroValue3,t9:=underlying9,a9:=isAgg9,z9:=sizeOf9,v9:=zeroValue9,t37:=underlying65,a37:=isAgg65,z37:=sizeOf65,v37:=zeroValue65,t70:=underlying363,a70:=isAgg363,z70:=sizeOf363,v70:=zeroValue363,t72:=underlying365,a72:=isAgg365,z72:=sizeOf365,v72:=zeroValue365,t127:=underlying405,a127:=isAgg405,z127:=sizeOf405,v127:=zeroValue405}
theorem Tryz.Builder_Extra_169:Builder.Extra prog Tryz.lays169_ren:={sizeBuilder:=by kernel_rfl,liesBuilder:=by kernel_rfl,t5:=underlying5,a5:=isAgg5,z5:=sizeOf5,v5:=zeroValue5,infoByte:=by kernel_rfl,cellsByte:=by kernel_rfl,sizeByte:=by kernel_rfl,neB5:=by decide}
def Tryz.lays103_ren:Go.Shelf.Ren:=⟨fun|103=>171|210=>226|206=>277|n=>n,fun|9=>9|4=>4|24=>290|3=>3|n=>n,fun|n=>n⟩
theorem Tryz.lays103:Go.Proofs.Lays.n103 prog Tryz.lays103_ren:={mixed:=by kernel_rfl,f103:=tq func171,f206:=tq func277,f210:=tq func226,t3:=underlying3,a3:=isAgg3,z3:=sizeOf3,v3:=zeroValue3,t4:=underlying4,a4:=isAgg4,z4:=sizeOf4,v4:=zeroValue4,t9:=underlying9,a9:=isAgg9,z9:=sizeOf9,v9:=zeroValue9,t24:=underlying290,a24:=isAgg290,z24:=sizeOf290,v24:=zeroValue290}
open Go.RowKit in
theorem Tryz.strings_CutPrefix (s p:ByteArray) (w:World):
 Calls prog 171 #[.string s,.string p] w fun e w' =>e= .returned (.tuple #[.string ⟨(Lib.trimPrefix s.data.toList p.data.toList).toArray⟩,.bool (Lib.hasPrefix s.data.toList p.data.toList)])∧w' =w:=Any.strings_CutPrefix Tryz.lays103 s p w
def Tryz.lays215_ren:Go.Shelf.Ren:=⟨fun|215=>357|n=>n,fun|3=>3|4=>4|n=>n,fun|n=>n⟩
theorem Tryz.lays215:Go.Proofs.Lays.n215 prog Tryz.lays215_ren:={mixed:=by kernel_rfl,f215:=tq func357,t3:=underlying3,a3:=isAgg3,z3:=sizeOf3,v3:=zeroValue3,t4:=underlying4,a4:=isAgg4,z4:=sizeOf4,v4:=zeroValue4}
open Go.RowKit in
theorem Tryz.cmp_isNaN_int (x:Int) (w:World):
 Calls prog 357 #[.int .i64 x] w fun e w' =>e= .returned (.bool false)∧w' =w:=Any.cmp_isNaN_int Tryz.lays215 x w
open Go.RowKit in
theorem Tryz.Builder_String_any_k (B b:Nat) (l:List UInt8) (w:World) (h:Lib.IsBuilderF 365 5 B b (Lib.byteCells l) w) (hBw:B≤w.heap.size):
 Calls prog 235 #[.pointer (some ⟨b,0,none⟩)] w fun e w' =>e= .returned (.string ⟨l.toArray⟩)∧(Lib.IsBuilderF 365 5 B b (Lib.byteCells l) w' ∧Below B w w' ∧Lib.OthersKept 5 (some b) w w'):=Any.Builder_String_any_k Tryz.lays169 Tryz.Builder_Extra_169 B b l w h hBw
def Tryz.lays242_ren:Go.Shelf.Ren:=⟨fun|242=>370|278=>379|n=>n,fun|37=>65|21=>21|51=>72|4=>4|5=>5|46=>73|n=>n,fun|n=>n⟩
theorem Tryz.lays242:Go.Proofs.Lays.n242 prog Tryz.lays242_ren:={mixed:=by kernel_rfl,f242:=tq func370,f278:=tq func379,t4:=underlying4,a4:=isAgg4,z4:=sizeOf4,v4:=zeroValue4,t5:=underlying5,a5:=isAgg5,z5:=sizeOf5,v5:=zeroValue5,t21:=underlying21,a21:=isAgg21,z21:=sizeOf21,v21:=zeroValue21,t37:=underlying65,a37:=isAgg65,z37:=sizeOf65,v37:=zeroValue65,t46:=underlying73,a46:=isAgg73,z46:=sizeOf73,v46:=zeroValue73,t51:=underlying72,a51:=isAgg72,z51:=sizeOf72,v51:=zeroValue72}
open Go.RowKit in
theorem Tryz.utf8_AppendRune_plain (B:Nat) (v:Value) (n:Nat) (xs:List Value) (r:Int) (hr0: -2147483648≤r) (hr1:r≤2147483647) (w:World) (hown:w.ownsRow B 5 1 v n xs) (hlen:n+4≤140737488355328) (hBw:B≤w.heap.size):
 Calls prog 370 #[v,.int .i32 r] w fun e w' =>∃v',e= .returned v' ∧w'.ownsRow B 5 1 v' (n+(Lib.runeCells r).length) (xs++Lib.runeCells r)∧∃o,(w.alloc o).grownBy w' v.ownBlock:=Any.utf8_AppendRune_plain Tryz.lays242 (by kernel_rfl) B v n xs r hr0 hr1 w hown hlen hBw
def Tryz.lays129_ren:Go.Shelf.Ren:=⟨fun|129=>202|n=>n,fun|53=>35|3=>3|4=>4|46=>73|5=>5|9=>9|n=>n,fun|n=>n⟩
theorem Tryz.lays129:Go.Proofs.Lays.n129 prog Tryz.lays129_ren:={mixed:=by kernel_rfl,f129:=tq func202,t3:=underlying3,a3:=isAgg3,z3:=sizeOf3,v3:=zeroValue3,t4:=underlying4,a4:=isAgg4,z4:=sizeOf4,v4:=zeroValue4,t5:=underlying5,a5:=isAgg5,z5:=sizeOf5,v5:=zeroValue5,t9:=underlying9,a9:=isAgg9,z9:=sizeOf9,v9:=zeroValue9,t46:=underlying73,a46:=isAgg73,z46:=sizeOf73,v46:=zeroValue73,t53:=underlying35,a53:=isAgg35,z53:=sizeOf35,v53:=zeroValue35}
theorem Tryz.bits_Len64 (x:Int) (w:World) (h0:0≤x) (h1:x≤18446744073709551615):
 Calls prog 202 #[.int .u64 x] w fun e w' =>e= .returned (.int .i64 (Lib.bitLen x.toNat))∧w' =w:=Any.bits_Len64 Tryz.lays129 x w h0 h1
def Tryz.laysC174_ren:Go.Shelf.Ren:=⟨fun|174=>175|247=>236|245=>237|287=>284|279=>285|280=>286|281=>287|282=>288|321=>337|322=>338|316=>339|171=>341|205=>340|243=>368|246=>378|283=>381|284=>382|285=>383|286=>384|129=>202|317=>385|318=>386|319=>387|320=>388|337=>389|338=>390|n=>n,fun|9=>9|3=>3|2=>2|75=>297|85=>298|4=>4|167=>406|5=>5|53=>35|175=>407|46=>73|168=>409|37=>65|0=>0|210=>448|21=>21|127=>405|145=>469|143=>467|171=>484|173=>486|212=>489|51=>72|20=>20|213=>490|232=>491|233=>492|80=>369|n=>n,fun|15=>1|16=>2|17=>5|18=>6|19=>7|n=>n⟩
theorem Tryz.laysC174:Go.Proofs.LaysC.n174 prog Tryz.laysC174_ren:={mixed:=by kernel_rfl,f129:=tq func202,f171:=tq func341,f174:=tq func175,f205:=tq func340,f243:=tq func368,f245:=tq func237,f246:=tq func378,f247:=tq func236,f279:=tq func285,f280:=tq func286,f281:=tq func287,f282:=tq func288,f283:=tq func381,f284:=tq func382,f285:=tq func383,f286:=tq func384,f287:=tq func284,f316:=tq func339,f317:=tq func385,f318:=tq func386,f319:=tq func387,f320:=tq func388,f321:=tq func337,f322:=tq func338,f337:=tq func389,f338:=tq func390,t0:=underlying0,a0:=isAgg0,z0:=sizeOf0,v0:=zeroValue0,t2:=underlying2,a2:=isAgg2,z2:=sizeOf2,v2:=zeroValue2,t3:=underlying3,a3:=isAgg3,z3:=sizeOf3,v3:=zeroValue3,t4:=underlying4,a4:=isAgg4,z4:=sizeOf4,v4:=zeroValue4,t5:=underlying5,a5:=isAgg5,z5:=sizeOf5,v5:=zeroValue5,t9:=underlying9,a9:=isAgg9,z9:=sizeOf9,v9:=zeroValue9,t20:=underlying20,a20:=isAgg20,z20:=sizeOf20,v20:=zeroValue20,t21:=underlying21,a21:=isAgg21,z21:=sizeOf21,v21:=zeroValue21,t37:=underlying65,a37:=isAgg65,z37:=sizeOf65,v37:=zeroValue65,t46:=underlying73,a46:=isAgg73,z46:=sizeOf73,v46:=zeroValue73,t51:=underlying72,a51:=isAgg72,z51:=sizeOf72,v51:=zeroValue72,t53:=underlying35,a53:=isAgg35,z53:=sizeOf35,v53:=zeroValue35,t75:=underlying297,a75:=isAgg297,z75:=sizeOf297,v75:=zeroValue297,t85:=underlying298,a85:=isAgg298,z85:=sizeOf298,v85:=zeroValue298,t127:=underlying405,a127:=isAgg405,z127:=sizeOf405,v127:=zeroValue405,t143:=underlying467,a143:=isAgg467,z143:=sizeOf467,v143:=zeroValue467,t145:=underlying469,a145:=isAgg469,z145:=sizeOf469,v145:=zeroValue469,t167:=underlying406,a167:=isAgg406,z167:=sizeOf406,v167:=zeroValue406,t168:=underlying409,a168:=isAgg409,z168:=sizeOf409,v168:=zeroValue409,t171:=underlying484,a171:=isAgg484,z171:=sizeOf484,v171:=zeroValue484,t173:=underlying486,a173:=isAgg486,z173:=sizeOf486,v173:=zeroValue486,t175:=underlying407,a175:=isAgg407,z175:=sizeOf407,v175:=zeroValue407,t210:=underlying448,a210:=isAgg448,z210:=sizeOf448,v210:=zeroValue448,t212:=underlying489,a212:=isAgg489,z212:=sizeOf489,v212:=zeroValue489,t213:=underlying490,a213:=isAgg490,z213:=sizeOf490,t232:=underlying491,a232:=isAgg491,z232:=sizeOf491,v232:=zeroValue491,t233:=underlying492,a233:=isAgg492,z233:=sizeOf492,v233:=zeroValue492,g15:=by kernel_rfl,g16:=by kernel_rfl,g17:=by kernel_rfl,g18:=by kernel_rfl,g19:=by kernel_rfl,t80:=underlying369,a80:=isAgg369,z80:=sizeOf369,v80:=zeroValue369,i0:=by kernel_rfl,i2:=by kernel_rfl,i3:=by kernel_rfl,i4:=by kernel_rfl,i5:=by kernel_rfl,i9:=by kernel_rfl,i20:=by kernel_rfl,i21:=by kernel_rfl,i37:=by kernel_rfl,i46:=by kernel_rfl,i51:=by kernel_rfl,i53:=by kernel_rfl,i75:=by kernel_rfl,i80:=by kernel_rfl,i85:=by kernel_rfl,i127:=by kernel_rfl,i143:=by kernel_rfl,i145:=by kernel_rfl,i167:=by kernel_rfl,i168:=by kernel_rfl,i171:=by kernel_rfl,i173:=by kernel_rfl,i175:=by kernel_rfl,i210:=by kernel_rfl,i212:=by kernel_rfl,i232:=by kernel_rfl,i233:=by kernel_rfl,m15:=by kernel_rfl,m16:=by kernel_rfl,m17:=by kernel_rfl,m18:=by kernel_rfl,m19:=by kernel_rfl,c0:=by kernel_rfl,c2:=by kernel_rfl,c3:=by kernel_rfl,c4:=by kernel_rfl,c5:=by kernel_rfl,c9:=by kernel_rfl,c20:=by kernel_rfl,c21:=by kernel_rfl,c37:=by kernel_rfl,c46:=by kernel_rfl,c51:=by kernel_rfl,c53:=by kernel_rfl,c75:=by kernel_rfl,c80:=by kernel_rfl,c85:=by kernel_rfl,c127:=by kernel_rfl,c143:=by kernel_rfl,c145:=by kernel_rfl,c167:=by kernel_rfl,c168:=by kernel_rfl,c171:=by kernel_rfl,c173:=by kernel_rfl,c175:=by kernel_rfl,c210:=by kernel_rfl,c212:=by kernel_rfl,c213:=by kernel_rfl,c232:=by kernel_rfl,c233:=by kernel_rfl}
open Go.RowKit in
theorem Tryz.strconv_ParseInt_10_at64_ok (s:ByteArray) (hmax:s.size≤9223372036854775806) (v:Int) (h:Lib.parseIntB 64 s.data.toList= .ok v) (w:World):
 Calls prog 175 #[.string s,.int .i64 10,.int .i64 64] w fun e w' =>e= .returned (.tuple #[.int .i64 v,.nilIface])∧(w' =w∨∃t,w' =Lib.bytesWorld w 5 t):=Any.strconv_ParseInt_10_at64_ok Tryz.laysC174 s hmax v h w
open Go.RowKit in
theorem Tryz.strconv_ParseInt_10_at64_range (s:ByteArray) (hlim:s.size≤281474976710656) (h:Lib.parseIntB 64 s.data.toList= .range) (ev:Value) (w:World) (hv:w.cell? ⟨2,0,none⟩=some ev) (hev:ev= .nilIface∨∃te pe,ev= .iface te pe):
 Calls prog 175 #[.string s,.int .i64 10,.int .i64 64] w fun e w' =>∃N,e= .returned (.tuple #[.int .i64 (Lib.intSat 64 s.data.toList),.iface 409 (.pointer (some ⟨N,0,none⟩))])∧w.heap.size≤N∧w'.heap[N]? =some (.cells #[.string ⟨#[80,97,114,115,101,73,110,116]⟩,.string s,ev] 448 (0,0))∧Below w.heap.size w w' :=Any.strconv_ParseInt_10_at64_range Tryz.laysC174 s hlim h ev w hv hev
def Tryz.lays145_ren:Go.Shelf.Ren:=⟨fun|145=>172|220=>227|219=>278|217=>331|225=>332|224=>333|267=>334|266=>366|314=>367|n=>n,fun|9=>9|4=>4|59=>292|3=>3|5=>5|46=>73|146=>401|51=>72|n=>n,fun|1=>0|n=>n⟩
theorem Tryz.lays145:Go.Proofs.Lays.n145 prog Tryz.lays145_ren:={mixed:=by kernel_rfl,f145:=tq func172,f217:=tq func331,f219:=tq func278,f220:=tq func227,f224:=tq func333,f225:=tq func332,f266:=tq func366,f267:=tq func334,f314:=tq func367,t3:=underlying3,a3:=isAgg3,z3:=sizeOf3,v3:=zeroValue3,t4:=underlying4,a4:=isAgg4,z4:=sizeOf4,v4:=zeroValue4,t5:=underlying5,a5:=isAgg5,z5:=sizeOf5,v5:=zeroValue5,t9:=underlying9,a9:=isAgg9,z9:=sizeOf9,v9:=zeroValue9,t46:=underlying73,a46:=isAgg73,z46:=sizeOf73,v46:=zeroValue73,t51:=underlying72,a51:=isAgg72,z51:=sizeOf72,v51:=zeroValue72,t59:=underlying292,a59:=isAgg292,z59:=sizeOf292,v59:=zeroValue292,t146:=underlying401,a146:=isAgg401,z146:=sizeOf401,v146:=zeroValue401,g1:=by kernel_rfl}
open Go.RowKit Go.Lib in
theorem Tryz.strings_Cut (s sep:ByteArray) (m:Int) (w:World) (hs:s.size<4294967281) (hm:w.cell? ⟨0,0,none⟩=some (.int .i64 m)):
 Calls prog 172 #[.string s,.string sep] w fun e w' =>e= .returned (.tuple #[.string ⟨(Lib.cut s.data.toList sep.data.toList).1.toArray⟩,.string ⟨(Lib.cut s.data.toList sep.data.toList).2.1.toArray⟩,.bool (Lib.cut s.data.toList sep.data.toList).2.2])∧∃n,w' =w.drewN n:=Any.strings_Cut Tryz.lays145 s sep m w hs hm
def Tryz.lays189_ren:Go.Shelf.Ren:=⟨fun|189=>198|125=>257|257=>261|128=>303|129=>202|294=>313|295=>314|296=>315|297=>316|298=>317|299=>318|216=>319|300=>320|301=>321|328=>354|329=>346|330=>347|331=>355|332=>356|215=>357|343=>374|n=>n,fun|28=>55|3=>3|46=>73|0=>0|51=>72|53=>35|4=>4|183=>420|182=>419|131=>43|5=>5|9=>9|218=>453|222=>97|228=>472|229=>318|n=>n,fun|n=>n⟩
theorem Tryz.lays189:Go.Proofs.Lays.n189 prog Tryz.lays189_ren:={mixed:=by kernel_rfl,f125:=tq func257,f128:=tq func303,f129:=tq func202,f189:=tq func198,f215:=tq func357,f216:=tq func319,f257:=tq func261,f294:=tq func313,f295:=tq func314,f296:=tq func315,f297:=tq func316,f298:=tq func317,f299:=tq func318,f300:=tq func320,f301:=tq func321,f328:=tq func354,f329:=tq func346,f330:=tq func347,f331:=tq func355,f332:=tq func356,f343:=tq func374,t0:=underlying0,a0:=isAgg0,z0:=sizeOf0,v0:=zeroValue0,t3:=underlying3,a3:=isAgg3,z3:=sizeOf3,v3:=zeroValue3,t4:=underlying4,a4:=isAgg4,z4:=sizeOf4,v4:=zeroValue4,t5:=underlying5,a5:=isAgg5,z5:=sizeOf5,v5:=zeroValue5,t9:=underlying9,a9:=isAgg9,z9:=sizeOf9,v9:=zeroValue9,t28:=underlying55,a28:=isAgg55,z28:=sizeOf55,v28:=zeroValue55,t46:=underlying73,a46:=isAgg73,z46:=sizeOf73,v46:=zeroValue73,t51:=underlying72,a51:=isAgg72,z51:=sizeOf72,v51:=zeroValue72,t53:=underlying35,a53:=isAgg35,z53:=sizeOf35,v53:=zeroValue35,t131:=underlying43,a131:=isAgg43,z131:=sizeOf43,v131:=zeroValue43,t182:=underlying419,a182:=isAgg419,z182:=sizeOf419,v182:=zeroValue419,t183:=underlying420,a183:=isAgg420,z183:=sizeOf420,v183:=zeroValue420,t218:=underlying453,a218:=isAgg453,z218:=sizeOf453,v218:=zeroValue453,t222:=underlying97,a222:=isAgg97,z222:=sizeOf97,v222:=zeroValue97,t228:=underlying472,a228:=isAgg472,z228:=sizeOf472,v228:=zeroValue472,t229:=underlying318,a229:=isAgg318,z229:=sizeOf318,v229:=zeroValue318}
open Go.Sort Go.RowKit in
theorem Tryz.slices_Sort_int (blk off cap:Nat) (zs:List Int) (w:World) (hH:Holds (Value.int .i64) w blk off zs.toArray) (hblk:blk<w.heap.size) (hsz:zs.length<4611686018427387904):
 Calls prog 198 #[.slice (some ⟨blk,off,none⟩) zs.length cap] w fun e w' =>
  e= .returned (.tuple #[])∧∃n os,w' =grow (putRow (Value.int .i64) (Sort.ahead w n) blk off (zs.mergeSort fun x y=>decide (x≤y)).toArray) os:=Any.slices_Sort_int Tryz.lays189 blk off cap zs w hH hblk hsz
def Tryz.lays190_ren:Go.Shelf.Ren:=⟨fun|190=>192|125=>257|258=>256|128=>303|129=>202|302=>295|303=>296|304=>297|305=>298|306=>299|307=>300|308=>272|309=>301|310=>302|333=>345|329=>346|330=>347|334=>348|335=>349|336=>324|344=>372|n=>n,fun|31=>129|9=>9|3=>3|46=>73|0=>0|51=>72|53=>35|4=>4|183=>420|182=>419|131=>43|5=>5|218=>453|222=>97|228=>472|229=>318|n=>n,fun|n=>n⟩
theorem Tryz.lays190:Go.Proofs.Lays.n190 prog Tryz.lays190_ren:={mixed:=by kernel_rfl,f125:=tq func257,f128:=tq func303,f129:=tq func202,f190:=tq func192,f258:=tq func256,f302:=tq func295,f303:=tq func296,f304:=tq func297,f305:=tq func298,f306:=tq func299,f307:=tq func300,f308:=tq func272,f309:=tq func301,f310:=tq func302,f329:=tq func346,f330:=tq func347,f333:=tq func345,f334:=tq func348,f335:=tq func349,f336:=tq func324,f344:=tq func372,t0:=underlying0,a0:=isAgg0,z0:=sizeOf0,v0:=zeroValue0,t3:=underlying3,a3:=isAgg3,z3:=sizeOf3,v3:=zeroValue3,t4:=underlying4,a4:=isAgg4,z4:=sizeOf4,v4:=zeroValue4,t5:=underlying5,a5:=isAgg5,z5:=sizeOf5,v5:=zeroValue5,t9:=underlying9,a9:=isAgg9,z9:=sizeOf9,v9:=zeroValue9,t31:=underlying129,a31:=isAgg129,z31:=sizeOf129,v31:=zeroValue129,t46:=underlying73,a46:=isAgg73,z46:=sizeOf73,v46:=zeroValue73,t51:=underlying72,a51:=isAgg72,z51:=sizeOf72,v51:=zeroValue72,t53:=underlying35,a53:=isAgg35,z53:=sizeOf35,v53:=zeroValue35,t131:=underlying43,a131:=isAgg43,z131:=sizeOf43,v131:=zeroValue43,t182:=underlying419,a182:=isAgg419,z182:=sizeOf419,v182:=zeroValue419,t183:=underlying420,a183:=isAgg420,z183:=sizeOf420,v183:=zeroValue420,t218:=underlying453,a218:=isAgg453,z218:=sizeOf453,v218:=zeroValue453,t222:=underlying97,a222:=isAgg97,z222:=sizeOf97,v222:=zeroValue97,t228:=underlying472,a228:=isAgg472,z228:=sizeOf472,v228:=zeroValue472,t229:=underlying318,a229:=isAgg318,z229:=sizeOf318,v229:=zeroValue318}
open Go.Sort Go.RowKit in
theorem Tryz.slices_Sort_string (blk off cap:Nat) (ss:List (List UInt8)) (w:World) (hH:Holds encStr w blk off ss.toArray) (hblk:blk<w.heap.size) (hsz:ss.length<4611686018427387904):
 Calls prog 192 #[.slice (some ⟨blk,off,none⟩) ss.length cap] w fun e w' =>
  e= .returned (.tuple #[])∧∃n os,w' =grow (putRow encStr (Sort.ahead w n) blk off (ss.mergeSort fun x y=>decide (x≤y)).toArray) os:=Any.slices_Sort_string Tryz.lays190 blk off cap ss w hH hblk hsz
def Tryz.laysGw15_ren:Go.Shelf.Ren:=⟨fun|15=>228|20=>279|n=>n,fun|9=>9|23=>305|3=>3|4=>4|0=>0|21=>21|n=>n,fun|n=>n⟩
theorem Tryz.laysGw15:Go.Proofs.LaysGw.n15 prog Tryz.laysGw15_ren:={mixed:=by kernel_rfl,f15:=tq func228,f20:=tq func279,t0:=underlying0,a0:=isAgg0,z0:=sizeOf0,v0:=zeroValue0,i0:=by kernel_rfl,t3:=underlying3,a3:=isAgg3,z3:=sizeOf3,v3:=zeroValue3,i3:=by kernel_rfl,t4:=underlying4,a4:=isAgg4,z4:=sizeOf4,v4:=zeroValue4,i4:=by kernel_rfl,t9:=underlying9,a9:=isAgg9,z9:=sizeOf9,v9:=zeroValue9,i9:=by kernel_rfl,t21:=underlying21,a21:=isAgg21,z21:=sizeOf21,v21:=zeroValue21,i21:=by kernel_rfl,t23:=underlying305,a23:=isAgg305,z23:=sizeOf305,v23:=zeroValue305,i23:=by kernel_rfl}
def Tryz.lays197_ren:Go.Shelf.Ren:=⟨fun|197=>344|260=>371|n=>n,fun|9=>9|21=>21|3=>3|4=>4|5=>5|105=>413|119=>479|0=>0|46=>73|139=>482|138=>481|n=>n,fun|3=>3|4=>4|n=>n⟩
theorem Tryz.lays197:Go.Proofs.Lays.n197 prog Tryz.lays197_ren:={mixed:=by kernel_rfl,f197:=tq func344,f260:=tq func371,t0:=underlying0,a0:=isAgg0,z0:=sizeOf0,v0:=zeroValue0,t3:=underlying3,a3:=isAgg3,z3:=sizeOf3,v3:=zeroValue3,t4:=underlying4,a4:=isAgg4,z4:=sizeOf4,v4:=zeroValue4,t5:=underlying5,a5:=isAgg5,z5:=sizeOf5,v5:=zeroValue5,t9:=underlying9,a9:=isAgg9,z9:=sizeOf9,v9:=zeroValue9,t21:=underlying21,a21:=isAgg21,z21:=sizeOf21,v21:=zeroValue21,t46:=underlying73,a46:=isAgg73,z46:=sizeOf73,v46:=zeroValue73,t105:=underlying413,a105:=isAgg413,z105:=sizeOf413,v105:=zeroValue413,t119:=underlying479,a119:=isAgg479,z119:=sizeOf479,t138:=underlying481,a138:=isAgg481,z138:=sizeOf481,v138:=zeroValue481,t139:=underlying482,a139:=isAgg482,z139:=sizeOf482,v139:=zeroValue482,g3:=by kernel_rfl,g4:=by kernel_rfl}
def Tryz.lays105_ren:Go.Shelf.Ren:=⟨fun|105=>174|212=>230|99=>231|165=>232|166=>233|170=>234|169=>235|263=>280|264=>281|206=>277|240=>282|241=>283|276=>335|277=>336|n=>n,fun|9=>9|3=>3|4=>4|20=>20|0=>0|46=>73|109=>360|5=>5|72=>365|76=>367|51=>72|146=>401|53=>35|148=>403|70=>363|37=>65|75=>297|127=>405|164=>444|80=>369|n=>n,fun|n=>n⟩
theorem Tryz.lays105:Go.Proofs.Lays.n105 prog Tryz.lays105_ren:={mixed:=by kernel_rfl,f99:=tq func231,f105:=tq func174,f165:=tq func232,f166:=tq func233,f169:=tq func235,f170:=tq func234,f206:=tq func277,f212:=tq func230,f240:=tq func282,f241:=tq func283,f263:=tq func280,f264:=tq func281,f276:=tq func335,f277:=tq func336,t0:=underlying0,a0:=isAgg0,z0:=sizeOf0,v0:=zeroValue0,t3:=underlying3,a3:=isAgg3,z3:=sizeOf3,v3:=zeroValue3,t4:=underlying4,a4:=isAgg4,z4:=sizeOf4,v4:=zeroValue4,t5:=underlying5,a5:=isAgg5,z5:=sizeOf5,v5:=zeroValue5,t9:=underlying9,a9:=isAgg9,z9:=sizeOf9,v9:=zeroValue9,t20:=underlying20,a20:=isAgg20,z20:=sizeOf20,v20:=zeroValue20,t37:=underlying65,a37:=isAgg65,z37:=sizeOf65,v37:=zeroValue65,t46:=underlying73,a46:=isAgg73,z46:=sizeOf73,v46:=zeroValue73,t51:=underlying72,a51:=isAgg72,z51:=sizeOf72,v51:=zeroValue72,t53:=underlying35,a53:=isAgg35,z53:=sizeOf35,v53:=zeroValue35,t70:=underlying363,a70:=isAgg363,z70:=sizeOf363,v70:=zeroValue363,t72:=underlying365,a72:=isAgg365,z72:=sizeOf365,v72:=zeroValue365,t75:=underlying297,a75:=isAgg297,z75:=sizeOf297,v75:=zeroValue297,t76:=underlying367,a76:=isAgg367,z76:=sizeOf367,v76:=zeroValue367,t109:=underlying360,a109:=isAgg360,z109:=sizeOf360,v109:=zeroValue360,t127:=underlying405,a127:=isAgg405,z127:=sizeOf405,v127:=zeroValue405,t146:=underlying401,a146:=isAgg401,z146:=sizeOf401,v146:=zeroValue401,t148:=underlying403,a148:=isAgg403,z148:=sizeOf403,v148:=zeroValue403,t164:=underlying444,a164:=isAgg444,z164:=sizeOf444,v164:=zeroValue444}
theorem Tryz.Builder_Extra_105:Builder.Extra prog Tryz.lays105_ren:={sizeBuilder:=by kernel_rfl,liesBuilder:=by kernel_rfl,t5:=underlying5,a5:=isAgg5,z5:=sizeOf5,v5:=zeroValue5,infoByte:=by kernel_rfl,cellsByte:=by kernel_rfl,sizeByte:=by kernel_rfl,neB5:=by decide}
open Go.RowKit Go.Lib in
theorem Tryz.strings_Repeat (s:ByteArray) (c:Nat) (w:World) (hc:c≤9223372036854775807) (hlen:s.size*c≤140737488355328):
 Calls prog 174 #[.string s,.int .i64 c] w fun e w' =>e= .returned (.string ⟨(Lib.repeatL s.data.toList c).toArray⟩)∧Below w.heap.size w w' :=Any.strings_Repeat Tryz.lays105 Tryz.Builder_Extra_105 s c w hc hlen
open Go.RowKit Go.Lib in
theorem Tryz.utf8_DecodeRuneInString (s:ByteArray) (w:World) (hT:Lib.Utf8Tabs 3 4 w):
 Calls prog 344 #[.string s] w fun e w' =>e= .returned (.tuple #[.int .i32 (Lib.decodeGo s).1,.int .i64 (Lib.decodeGo s).2])∧Below w.heap.size w w' :=Any.utf8_DecodeRuneInString Tryz.lays197 s w hT
open Go.RowKit Go.Lib in
theorem Tryz.strings_IndexFunc_grows (g:Nat) (lb:Array Value) (eg:∀args w,(callFunc g args).run prog w= .ok (.enter g args) w) (p:Nat→Bool) (s:ByteArray) (w:World) (hp:PredGrows prog g lb p w):
 Calls prog 228 #[.string s,.func (.func g) #[] lb] w fun e w' =>e= .returned (.int .i64 (Lib.idxFunc p true s))∧Below w.heap.size w w' :=Any.strings_IndexFunc_grows Tryz.laysGw15 g lb eg p s w hp
def Tryz.lays107_ren:Go.Shelf.Ren:=⟨fun|107=>177|108=>243|n=>n,fun|28=>55|3=>3|4=>4|0=>0|n=>n,fun|n=>n⟩
theorem Tryz.lays107:Go.Proofs.Lays.n107 prog Tryz.lays107_ren:={mixed:=by kernel_rfl,f107:=tq func177,f108:=tq func243,t0:=underlying0,a0:=isAgg0,z0:=sizeOf0,v0:=zeroValue0,t3:=underlying3,a3:=isAgg3,z3:=sizeOf3,v3:=zeroValue3,t4:=underlying4,a4:=isAgg4,z4:=sizeOf4,v4:=zeroValue4,t28:=underlying55,a28:=isAgg55,z28:=sizeOf55,v28:=zeroValue55}
open Go.Lib in
theorem Tryz.slices_Contains_int (b off n c:Nat) (zs:List Int) (x:Int) (w:World) (hz:n≤zs.length) (hbig:n≤9223372036854775807) (hc:∀j,j<zs.length→w.cell? ⟨b,off+j,none⟩=some (.int .i64 (zs.getD j 0))):
 Calls prog 177 #[.slice (some ⟨b,off,none⟩) n c,.int .i64 x] w fun e w' =>e= .returned (.bool ((zs.take n).contains x))∧w' =w:=Any.slices_Contains_int Tryz.lays107 b off n c zs x w hz hbig hc
def Tryz.lays194_ren:Go.Shelf.Ren:=⟨fun|194=>193|n=>n,fun|31=>129|9=>9|3=>3|4=>4|0=>0|n=>n,fun|n=>n⟩
theorem Tryz.lays194:Go.Proofs.Lays.n194 prog Tryz.lays194_ren:={mixed:=by kernel_rfl,f194:=tq func193,t0:=underlying0,a0:=isAgg0,z0:=sizeOf0,v0:=zeroValue0,t3:=underlying3,a3:=isAgg3,z3:=sizeOf3,v3:=zeroValue3,t4:=underlying4,a4:=isAgg4,z4:=sizeOf4,v4:=zeroValue4,t9:=underlying9,a9:=isAgg9,z9:=sizeOf9,v9:=zeroValue9,t31:=underlying129,a31:=isAgg129,z31:=sizeOf129,v31:=zeroValue129}
open Go.RowKit Go.Lib Go.Sort in
theorem Tryz.slices_Compact_string (blk off cap:Nat) (zs:List (List UInt8)) (w:World) (hH:Holds encStr w blk off zs.toArray) (hsz:zs.length≤9223372036854775807) (hcap:zs.length≤cap):
 Calls prog 193 #[.slice (some ⟨blk,off,none⟩) zs.length cap] w fun e w' =>e= .returned (.slice (some ⟨blk,off,none⟩) (Lib.compact zs).length cap)∧∃q,w' =putRow encStr (Sort.ahead w q) blk off (Lib.compact zs++List.replicate (zs.length - (Lib.compact zs).length) []).toArray:=Any.slices_Compact_string Tryz.lays194 blk off cap zs w hH hsz hcap
open Go.RowKit Go.Lib Go.Sort in
theorem Tryz.slices_Compact_string_empty (a:Option Addr) (cap:Nat) (w:World):
 Calls prog 193 #[.slice a 0 cap] w fun e w' =>e= .returned (.slice a 0 cap)∧w' =w:=Any.slices_Compact_string_empty Tryz.lays194 a cap w
open Go.RowKit Go.Sort in
theorem Tryz.slices_Sort_string_none (p:Option Addr) (cap:Nat) (w:World):
 Calls prog 192 #[.slice p 0 cap] w fun e w' =>e= .returned (.tuple #[])∧w' =w:=Any.slices_Sort_string_none Tryz.lays190 p cap w
open Go.RowKit Go.Sort in
theorem Tryz.slices_Sort_int_none (p:Option Addr) (cap:Nat) (w:World):
 Calls prog 198 #[.slice p 0 cap] w fun e w' =>e= .returned (.tuple #[])∧w' =w:=Any.slices_Sort_int_none Tryz.lays189 p cap w
def Tryz.laysSlM5_f194_ren:Go.Shelf.Ren:=⟨fun|5=>194|8=>257|7=>258|19=>303|20=>202|10=>304|11=>305|12=>306|13=>307|14=>308|15=>309|16=>310|17=>311|18=>312|30=>350|31=>346|32=>347|33=>351|34=>352|35=>353|40=>373|n=>n,fun|23=>57|25=>2|3=>3|32=>73|22=>57|0=>0|44=>72|46=>35|4=>4|36=>420|35=>419|41=>43|5=>5|9=>9|53=>453|57=>97|63=>472|64=>318|n=>n,fun|n=>n⟩
theorem Tryz.laysSlM5_f194:Go.Proofs.SlLaysM.n5 prog Tryz.laysSlM5_f194_ren:={mixed:=by kernel_rfl,f5:=⟨f194.name,by decide,tq func194⟩,f7:=⟨f258.name,by decide,tq func258⟩,f8:=tq func257,f10:=⟨f304.name,by decide,tq func304⟩,f11:=⟨f305.name,by decide,tq func305⟩,f12:=⟨f306.name,by decide,tq func306⟩,f13:=⟨f307.name,by decide,tq func307⟩,f14:=⟨f308.name,by decide,tq func308⟩,f15:=⟨f309.name,by decide,tq func309⟩,f16:=⟨f310.name,by decide,tq func310⟩,f17:=⟨f311.name,by decide,tq func311⟩,f18:=⟨f312.name,by decide,tq func312⟩,f19:=tq func303,f20:=tq func202,f30:=⟨f350.name,by decide,tq func350⟩,f31:=tq func346,f32:=tq func347,f33:=⟨f351.name,by decide,tq func351⟩,f34:=⟨f352.name,by decide,tq func352⟩,f35:=⟨f353.name,by decide,tq func353⟩,f40:=⟨f373.name,by decide,tq func373⟩,t0:=underlying0,a0:=isAgg0,z0:=sizeOf0,v0:=zeroValue0,t3:=underlying3,a3:=isAgg3,z3:=sizeOf3,v3:=zeroValue3,t4:=underlying4,a4:=isAgg4,z4:=sizeOf4,v4:=zeroValue4,t5:=underlying5,a5:=isAgg5,z5:=sizeOf5,v5:=zeroValue5,t9:=underlying9,a9:=isAgg9,z9:=sizeOf9,v9:=zeroValue9,t22:=underlying57,a22:=isAgg57,z22:=sizeOf57,v22:=zeroValue57,t23:=underlying57,a23:=isAgg57,z23:=sizeOf57,v23:=zeroValue57,t25:=underlying2,a25:=isAgg2,z25:=sizeOf2,v25:=zeroValue2,t32:=underlying73,a32:=isAgg73,z32:=sizeOf73,v32:=zeroValue73,t35:=underlying419,a35:=isAgg419,z35:=sizeOf419,v35:=zeroValue419,t36:=underlying420,a36:=isAgg420,z36:=sizeOf420,v36:=zeroValue420,t41:=underlying43,a41:=isAgg43,z41:=sizeOf43,v41:=zeroValue43,t44:=underlying72,a44:=isAgg72,z44:=sizeOf72,v44:=zeroValue72,t46:=underlying35,a46:=isAgg35,z46:=sizeOf35,v46:=zeroValue35,t53:=underlying453,a53:=isAgg453,z53:=sizeOf453,v53:=zeroValue453,t57:=underlying97,a57:=isAgg97,z57:=sizeOf97,v57:=zeroValue97,t63:=underlying472,a63:=isAgg472,z63:=sizeOf472,v63:=zeroValue472,t64:=underlying318,a64:=isAgg318,z64:=sizeOf318,v64:=zeroValue318}
open Go.Sort Go.RowKit in
theorem Tryz.slices_Sort_int_f194 (blk off cap:Nat) (zs:List Int) (w:World) (hH:Holds (Value.int .i64) w blk off zs.toArray) (hblk:blk<w.heap.size) (hsz:zs.length<4611686018427387904):
 Calls prog 194 #[.slice (some ⟨blk,off,none⟩) zs.length cap] w fun e w' =>
  e= .returned (.tuple #[])∧∃n os,w' =grow (putRow (Value.int .i64) (Sort.ahead w n) blk off (zs.mergeSort fun x y=>decide (x≤y)).toArray) os:=AnyM.slices_Sort_int Tryz.laysSlM5_f194 blk off cap zs w hH hblk hsz
open Go.RowKit Go.Sort in
theorem Tryz.slices_Sort_int_none_f194 (p:Option Addr) (cap:Nat) (w:World):
 Calls prog 194 #[.slice p 0 cap] w fun e w' =>e= .returned (.tuple #[])∧w' =w:=AnyM.slices_Sort_int_none Tryz.laysSlM5_f194 p cap w
end Go.Proofs
