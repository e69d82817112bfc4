/- Part of the proof. -/
import Derived.Shelf.Strconv.Atoi
import Derived.Shelf.Slices.CompactI
import Derived.Shelf.Slices.CompactS
import Derived.Shelf.Slices.Empties
import Derived.Shelf.SlicesE.Delete
import Derived.Shelf.SlSortCmp.NoneTotal
import Derived.Test.YtelmfadihfcgnaaGreatDoorFL9T
import Derived.Lib.SmallJoins
set_option linter.unusedSimpArgs false
set_option linter.unusedVariables false
/-
 DERIVED: THE SHELF's CONTRACTS AT THIS DUMP, IN PLAIN WORDS (tools/lay-plain.mjs out of 'TryzShelf.lean', which tools/lay-shelf.mjs wrote): THE SAME DECLARATIONS UNDER THE SAME NAMES: 'import', 'namespace', 'open', 'def', 'theorem' AND NOTHING ELSE: no command of the shelf's: FOR A HAND-IN. Each laying: the table of numbers ('.._ren') and one theorem, a field a fact of the dump's own or the kernel's comparison; each contract: ONE APPLICATION.
-/
namespace Go.Proofs
open Go.Shelf
def Tryz.lays137_ren:Go.Shelf.Ren:=⟨fun|137=>149|217=>207|266=>232|n=>n,fun|9=>9|5=>5|3=>3|n=>n,fun|n=>n⟩
theorem Tryz.lays137:Go.Proofs.Lays.n137 Tryz.prog Tryz.lays137_ren:={
 mixed:=by kernel_rfl
 f137:=Tryz.func149.trans (congrArg some (by kernel_rfl))
 f217:=Tryz.func207.trans (congrArg some (by kernel_rfl))
 f266:=Tryz.func232.trans (congrArg some (by kernel_rfl))
 t3:=Tryz.underlying3
 a3:=Tryz.isAgg3
 z3:=Tryz.sizeOf3
 v3:=Tryz.zeroValue3
 t5:=Tryz.underlying5
 a5:=Tryz.isAgg5
 z5:=Tryz.sizeOf5
 v5:=Tryz.zeroValue5
 t9:=Tryz.underlying9
 a9:=Tryz.isAgg9
 z9:=Tryz.sizeOf9
 v9:=Tryz.zeroValue9 }
open Go.RowKit in
theorem Tryz.strings_IndexByte(s:ByteArray)(c:Int)(w:World):
  Calls Tryz.prog 149 #[.string s,.int .u8 c] w fun e w'=>e=.returned (.int .i64 (Lib.indexByte s.data.toList c.toNat.toUInt8))/\w'=w:=Any.strings_IndexByte Tryz.lays137 s c w
def Tryz.lays172_ren:Go.Shelf.Ren:=⟨fun|172=>197|244=>226|245=>227|247=>241|279=>242|280=>243|281=>244|282=>245|287=>248|316=>249|171=>251|205=>250|321=>252|322=>253|243=>254|246=>255|283=>256|284=>257|285=>258|286=>259|129=>162|317=>260|318=>261|319=>262|320=>263|337=>264|338=>265|n=>n,fun|9=>9|3=>3|75=>261|76=>262|4=>4|5=>5|167=>291|37=>257|0=>0|85=>292|2=>2|168=>294|53=>239|175=>299|46=>194|210=>303|127=>307|145=>310|143=>308|21=>21|171=>312|173=>314|212=>317|51=>237|20=>20|213=>318|232=>319|233=>320|80=>218|n=>n,fun|15=>1|16=>2|17=>3|18=>4|19=>5|n=>n⟩
theorem Tryz.lays172:Go.Proofs.Lays.n172 Tryz.prog Tryz.lays172_ren:={
 mixed:=by kernel_rfl
 f129:=Tryz.func162.trans (congrArg some (by kernel_rfl))
 f171:=Tryz.func251.trans (congrArg some (by kernel_rfl))
 f172:=Tryz.func197.trans (congrArg some (by kernel_rfl))
 f205:=Tryz.func250.trans (congrArg some (by kernel_rfl))
 f243:=Tryz.func254.trans (congrArg some (by kernel_rfl))
 f244:=Tryz.func226.trans (congrArg some (by kernel_rfl))
 f245:=Tryz.func227.trans (congrArg some (by kernel_rfl))
 f246:=Tryz.func255.trans (congrArg some (by kernel_rfl))
 f247:=Tryz.func241.trans (congrArg some (by kernel_rfl))
 f279:=Tryz.func242.trans (congrArg some (by kernel_rfl))
 f280:=Tryz.func243.trans (congrArg some (by kernel_rfl))
 f281:=Tryz.func244.trans (congrArg some (by kernel_rfl))
 f282:=Tryz.func245.trans (congrArg some (by kernel_rfl))
 f283:=Tryz.func256.trans (congrArg some (by kernel_rfl))
 f284:=Tryz.func257.trans (congrArg some (by kernel_rfl))
 f285:=Tryz.func258.trans (congrArg some (by kernel_rfl))
 f286:=Tryz.func259.trans (congrArg some (by kernel_rfl))
 f287:=Tryz.func248.trans (congrArg some (by kernel_rfl))
 f316:=Tryz.func249.trans (congrArg some (by kernel_rfl))
 f317:=Tryz.func260.trans (congrArg some (by kernel_rfl))
 f318:=Tryz.func261.trans (congrArg some (by kernel_rfl))
 f319:=Tryz.func262.trans (congrArg some (by kernel_rfl))
 f320:=Tryz.func263.trans (congrArg some (by kernel_rfl))
 f321:=Tryz.func252.trans (congrArg some (by kernel_rfl))
 f322:=Tryz.func253.trans (congrArg some (by kernel_rfl))
 f337:=Tryz.func264.trans (congrArg some (by kernel_rfl))
 f338:=Tryz.func265.trans (congrArg some (by kernel_rfl))
 t0:=Tryz.underlying0
 a0:=Tryz.isAgg0
 z0:=Tryz.sizeOf0
 v0:=Tryz.zeroValue0
 t2:=Tryz.underlying2
 a2:=Tryz.isAgg2
 z2:=Tryz.sizeOf2
 v2:=Tryz.zeroValue2
 t3:=Tryz.underlying3
 a3:=Tryz.isAgg3
 z3:=Tryz.sizeOf3
 v3:=Tryz.zeroValue3
 t4:=Tryz.underlying4
 a4:=Tryz.isAgg4
 z4:=Tryz.sizeOf4
 v4:=Tryz.zeroValue4
 t5:=Tryz.underlying5
 a5:=Tryz.isAgg5
 z5:=Tryz.sizeOf5
 v5:=Tryz.zeroValue5
 t9:=Tryz.underlying9
 a9:=Tryz.isAgg9
 z9:=Tryz.sizeOf9
 v9:=Tryz.zeroValue9
 t20:=Tryz.underlying20
 a20:=Tryz.isAgg20
 z20:=Tryz.sizeOf20
 v20:=Tryz.zeroValue20
 t21:=Tryz.underlying21
 a21:=Tryz.isAgg21
 z21:=Tryz.sizeOf21
 v21:=Tryz.zeroValue21
 t37:=Tryz.underlying257
 a37:=Tryz.isAgg257
 z37:=Tryz.sizeOf257
 v37:=Tryz.zeroValue257
 t46:=Tryz.underlying194
 a46:=Tryz.isAgg194
 z46:=Tryz.sizeOf194
 v46:=Tryz.zeroValue194
 t51:=Tryz.underlying237
 a51:=Tryz.isAgg237
 z51:=Tryz.sizeOf237
 v51:=Tryz.zeroValue237
 t53:=Tryz.underlying239
 a53:=Tryz.isAgg239
 z53:=Tryz.sizeOf239
 v53:=Tryz.zeroValue239
 t75:=Tryz.underlying261
 a75:=Tryz.isAgg261
 z75:=Tryz.sizeOf261
 v75:=Tryz.zeroValue261
 t76:=Tryz.underlying262
 a76:=Tryz.isAgg262
 z76:=Tryz.sizeOf262
 v76:=Tryz.zeroValue262
 t85:=Tryz.underlying292
 a85:=Tryz.isAgg292
 z85:=Tryz.sizeOf292
 v85:=Tryz.zeroValue292
 t127:=Tryz.underlying307
 a127:=Tryz.isAgg307
 z127:=Tryz.sizeOf307
 v127:=Tryz.zeroValue307
 t143:=Tryz.underlying308
 a143:=Tryz.isAgg308
 z143:=Tryz.sizeOf308
 v143:=Tryz.zeroValue308
 t145:=Tryz.underlying310
 a145:=Tryz.isAgg310
 z145:=Tryz.sizeOf310
 v145:=Tryz.zeroValue310
 t167:=Tryz.underlying291
 a167:=Tryz.isAgg291
 z167:=Tryz.sizeOf291
 v167:=Tryz.zeroValue291
 t168:=Tryz.underlying294
 a168:=Tryz.isAgg294
 z168:=Tryz.sizeOf294
 v168:=Tryz.zeroValue294
 t171:=Tryz.underlying312
 a171:=Tryz.isAgg312
 z171:=Tryz.sizeOf312
 v171:=Tryz.zeroValue312
 t173:=Tryz.underlying314
 a173:=Tryz.isAgg314
 z173:=Tryz.sizeOf314
 v173:=Tryz.zeroValue314
 t175:=Tryz.underlying299
 a175:=Tryz.isAgg299
 z175:=Tryz.sizeOf299
 v175:=Tryz.zeroValue299
 t210:=Tryz.underlying303
 a210:=Tryz.isAgg303
 z210:=Tryz.sizeOf303
 v210:=Tryz.zeroValue303
 t212:=Tryz.underlying317
 a212:=Tryz.isAgg317
 z212:=Tryz.sizeOf317
 v212:=Tryz.zeroValue317
 t213:=Tryz.underlying318
 a213:=Tryz.isAgg318
 z213:=Tryz.sizeOf318
 t232:=Tryz.underlying319
 a232:=Tryz.isAgg319
 z232:=Tryz.sizeOf319
 v232:=Tryz.zeroValue319
 t233:=Tryz.underlying320
 a233:=Tryz.isAgg320
 z233:=Tryz.sizeOf320
 v233:=Tryz.zeroValue320
 g15:=by kernel_rfl
 g16:=by kernel_rfl
 g17:=by kernel_rfl
 g18:=by kernel_rfl
 g19:=by kernel_rfl }
open Go.RowKit in
theorem Tryz.strconv_Atoi(s:ByteArray)(n:Int)(hl:s.size<=18)(h:Lib.atoi s.data.toList=some n)(w:World):
  Calls Tryz.prog 197 #[.string s] w fun e w'=>e=.returned (.tuple #[.int .i64 n,.nilIface])/\∃t,w'=Lib.bytesWorld w 5 t:=Any.strconv_Atoi Tryz.lays172 s n hl h w
def Tryz.lays189_ren:Go.Shelf.Ren:=⟨fun|189=>59|125=>115|257=>114|128=>161|129=>162|294=>152|295=>153|296=>154|297=>155|298=>156|299=>157|216=>158|300=>159|301=>160|328=>208|329=>209|330=>210|331=>211|332=>212|215=>213|343=>233|n=>n,fun|28=>51|3=>3|46=>194|0=>0|51=>237|53=>239|4=>4|183=>230|182=>229|131=>124|5=>5|9=>9|218=>269|222=>273|228=>284|229=>144|n=>n,fun|n=>n⟩
theorem Tryz.lays189:Go.Proofs.Lays.n189 Tryz.prog Tryz.lays189_ren:={
 mixed:=by kernel_rfl
 f125:=Tryz.func115.trans (congrArg some (by kernel_rfl))
 f128:=Tryz.func161.trans (congrArg some (by kernel_rfl))
 f129:=Tryz.func162.trans (congrArg some (by kernel_rfl))
 f189:=Tryz.func59.trans (congrArg some (by kernel_rfl))
 f215:=Tryz.func213.trans (congrArg some (by kernel_rfl))
 f216:=Tryz.func158.trans (congrArg some (by kernel_rfl))
 f257:=Tryz.func114.trans (congrArg some (by kernel_rfl))
 f294:=Tryz.func152.trans (congrArg some (by kernel_rfl))
 f295:=Tryz.func153.trans (congrArg some (by kernel_rfl))
 f296:=Tryz.func154.trans (congrArg some (by kernel_rfl))
 f297:=Tryz.func155.trans (congrArg some (by kernel_rfl))
 f298:=Tryz.func156.trans (congrArg some (by kernel_rfl))
 f299:=Tryz.func157.trans (congrArg some (by kernel_rfl))
 f300:=Tryz.func159.trans (congrArg some (by kernel_rfl))
 f301:=Tryz.func160.trans (congrArg some (by kernel_rfl))
 f328:=Tryz.func208.trans (congrArg some (by kernel_rfl))
 f329:=Tryz.func209.trans (congrArg some (by kernel_rfl))
 f330:=Tryz.func210.trans (congrArg some (by kernel_rfl))
 f331:=Tryz.func211.trans (congrArg some (by kernel_rfl))
 f332:=Tryz.func212.trans (congrArg some (by kernel_rfl))
 f343:=Tryz.func233.trans (congrArg some (by kernel_rfl))
 t0:=Tryz.underlying0
 a0:=Tryz.isAgg0
 z0:=Tryz.sizeOf0
 v0:=Tryz.zeroValue0
 t3:=Tryz.underlying3
 a3:=Tryz.isAgg3
 z3:=Tryz.sizeOf3
 v3:=Tryz.zeroValue3
 t4:=Tryz.underlying4
 a4:=Tryz.isAgg4
 z4:=Tryz.sizeOf4
 v4:=Tryz.zeroValue4
 t5:=Tryz.underlying5
 a5:=Tryz.isAgg5
 z5:=Tryz.sizeOf5
 v5:=Tryz.zeroValue5
 t9:=Tryz.underlying9
 a9:=Tryz.isAgg9
 z9:=Tryz.sizeOf9
 v9:=Tryz.zeroValue9
 t28:=Tryz.underlying51
 a28:=Tryz.isAgg51
 z28:=Tryz.sizeOf51
 v28:=Tryz.zeroValue51
 t46:=Tryz.underlying194
 a46:=Tryz.isAgg194
 z46:=Tryz.sizeOf194
 v46:=Tryz.zeroValue194
 t51:=Tryz.underlying237
 a51:=Tryz.isAgg237
 z51:=Tryz.sizeOf237
 v51:=Tryz.zeroValue237
 t53:=Tryz.underlying239
 a53:=Tryz.isAgg239
 z53:=Tryz.sizeOf239
 v53:=Tryz.zeroValue239
 t131:=Tryz.underlying124
 a131:=Tryz.isAgg124
 z131:=Tryz.sizeOf124
 v131:=Tryz.zeroValue124
 t182:=Tryz.underlying229
 a182:=Tryz.isAgg229
 z182:=Tryz.sizeOf229
 v182:=Tryz.zeroValue229
 t183:=Tryz.underlying230
 a183:=Tryz.isAgg230
 z183:=Tryz.sizeOf230
 v183:=Tryz.zeroValue230
 t218:=Tryz.underlying269
 a218:=Tryz.isAgg269
 z218:=Tryz.sizeOf269
 v218:=Tryz.zeroValue269
 t222:=Tryz.underlying273
 a222:=Tryz.isAgg273
 z222:=Tryz.sizeOf273
 v222:=Tryz.zeroValue273
 t228:=Tryz.underlying284
 a228:=Tryz.isAgg284
 z228:=Tryz.sizeOf284
 v228:=Tryz.zeroValue284
 t229:=Tryz.underlying144
 a229:=Tryz.isAgg144
 z229:=Tryz.sizeOf144
 v229:=Tryz.zeroValue144 }
open Go.Sort Go.RowKit in
theorem Tryz.slices_Sort_int(blk off cap:Nat)(zs:List Int)(w:World)(hH:Holds (Value.int .i64) w blk off zs.toArray)(hblk:blk<w.heap.size)(hsz:zs.length<4611686018427387904):
  Calls Tryz.prog 59 #[.slice (some ⟨blk,off,none⟩) zs.length cap] w fun e w'=>
   e=.returned (.tuple #[])/\∃n os,w'=grow (putRow (Value.int .i64) (Sort.ahead w n) blk off (zs.mergeSort fun x y=>decide (x<=y)).toArray) os:=Any.slices_Sort_int Tryz.lays189 blk off cap zs w hH hblk hsz
def Tryz.lays190_ren:Go.Shelf.Ren:=⟨fun|190=>109|125=>115|258=>146|128=>161|129=>162|302=>198|303=>199|304=>200|305=>201|306=>202|307=>203|308=>204|309=>205|310=>206|333=>228|329=>209|330=>210|334=>229|335=>230|336=>231|344=>246|n=>n,fun|31=>22|9=>9|3=>3|46=>194|0=>0|51=>237|53=>239|4=>4|183=>230|182=>229|131=>124|5=>5|218=>269|222=>273|228=>284|229=>144|n=>n,fun|n=>n⟩
theorem Tryz.lays190:Go.Proofs.Lays.n190 Tryz.prog Tryz.lays190_ren:={
 mixed:=by kernel_rfl
 f125:=Tryz.func115.trans (congrArg some (by kernel_rfl))
 f128:=Tryz.func161.trans (congrArg some (by kernel_rfl))
 f129:=Tryz.func162.trans (congrArg some (by kernel_rfl))
 f190:=Tryz.func109.trans (congrArg some (by kernel_rfl))
 f258:=Tryz.func146.trans (congrArg some (by kernel_rfl))
 f302:=Tryz.func198.trans (congrArg some (by kernel_rfl))
 f303:=Tryz.func199.trans (congrArg some (by kernel_rfl))
 f304:=Tryz.func200.trans (congrArg some (by kernel_rfl))
 f305:=Tryz.func201.trans (congrArg some (by kernel_rfl))
 f306:=Tryz.func202.trans (congrArg some (by kernel_rfl))
 f307:=Tryz.func203.trans (congrArg some (by kernel_rfl))
 f308:=Tryz.func204.trans (congrArg some (by kernel_rfl))
 f309:=Tryz.func205.trans (congrArg some (by kernel_rfl))
 f310:=Tryz.func206.trans (congrArg some (by kernel_rfl))
 f329:=Tryz.func209.trans (congrArg some (by kernel_rfl))
 f330:=Tryz.func210.trans (congrArg some (by kernel_rfl))
 f333:=Tryz.func228.trans (congrArg some (by kernel_rfl))
 f334:=Tryz.func229.trans (congrArg some (by kernel_rfl))
 f335:=Tryz.func230.trans (congrArg some (by kernel_rfl))
 f336:=Tryz.func231.trans (congrArg some (by kernel_rfl))
 f344:=Tryz.func246.trans (congrArg some (by kernel_rfl))
 t0:=Tryz.underlying0
 a0:=Tryz.isAgg0
 z0:=Tryz.sizeOf0
 v0:=Tryz.zeroValue0
 t3:=Tryz.underlying3
 a3:=Tryz.isAgg3
 z3:=Tryz.sizeOf3
 v3:=Tryz.zeroValue3
 t4:=Tryz.underlying4
 a4:=Tryz.isAgg4
 z4:=Tryz.sizeOf4
 v4:=Tryz.zeroValue4
 t5:=Tryz.underlying5
 a5:=Tryz.isAgg5
 z5:=Tryz.sizeOf5
 v5:=Tryz.zeroValue5
 t9:=Tryz.underlying9
 a9:=Tryz.isAgg9
 z9:=Tryz.sizeOf9
 v9:=Tryz.zeroValue9
 t31:=Tryz.underlying22
 a31:=Tryz.isAgg22
 z31:=Tryz.sizeOf22
 v31:=Tryz.zeroValue22
 t46:=Tryz.underlying194
 a46:=Tryz.isAgg194
 z46:=Tryz.sizeOf194
 v46:=Tryz.zeroValue194
 t51:=Tryz.underlying237
 a51:=Tryz.isAgg237
 z51:=Tryz.sizeOf237
 v51:=Tryz.zeroValue237
 t53:=Tryz.underlying239
 a53:=Tryz.isAgg239
 z53:=Tryz.sizeOf239
 v53:=Tryz.zeroValue239
 t131:=Tryz.underlying124
 a131:=Tryz.isAgg124
 z131:=Tryz.sizeOf124
 v131:=Tryz.zeroValue124
 t182:=Tryz.underlying229
 a182:=Tryz.isAgg229
 z182:=Tryz.sizeOf229
 v182:=Tryz.zeroValue229
 t183:=Tryz.underlying230
 a183:=Tryz.isAgg230
 z183:=Tryz.sizeOf230
 v183:=Tryz.zeroValue230
 t218:=Tryz.underlying269
 a218:=Tryz.isAgg269
 z218:=Tryz.sizeOf269
 v218:=Tryz.zeroValue269
 t222:=Tryz.underlying273
 a222:=Tryz.isAgg273
 z222:=Tryz.sizeOf273
 v222:=Tryz.zeroValue273
 t228:=Tryz.underlying284
 a228:=Tryz.isAgg284
 z228:=Tryz.sizeOf284
 v228:=Tryz.zeroValue284
 t229:=Tryz.underlying144
 a229:=Tryz.isAgg144
 z229:=Tryz.sizeOf144
 v229:=Tryz.zeroValue144 }
open Go.Sort Go.RowKit in
theorem Tryz.slices_Sort_string(blk off cap:Nat)(ss:List (List UInt8))(w:World)(hH:Holds encStr w blk off ss.toArray)(hblk:blk<w.heap.size)(hsz:ss.length<4611686018427387904):
  Calls Tryz.prog 109 #[.slice (some ⟨blk,off,none⟩) ss.length cap] w fun e w'=>
   e=.returned (.tuple #[])/\∃n os,w'=grow (putRow encStr (Sort.ahead w n) blk off (ss.mergeSort fun x y=>decide (x<=y)).toArray) os:=Any.slices_Sort_string Tryz.lays190 blk off cap ss w hH hblk hsz
def Tryz.laysNm220_ren:Go.Shelf.Ren:=⟨fun|20=>186|n=>n,fun|22=>51|3=>3|4=>4|0=>0|n=>n,fun|n=>n⟩
theorem Tryz.laysNm220:Go.Proofs.Lays2.n20 Tryz.prog Tryz.laysNm220_ren:={
 mixed:=by kernel_rfl
 f20:=Tryz.func186.trans (congrArg some (by kernel_rfl))
 t0:=Tryz.underlying0
 a0:=Tryz.isAgg0
 z0:=Tryz.sizeOf0
 v0:=Tryz.zeroValue0
 t3:=Tryz.underlying3
 a3:=Tryz.isAgg3
 z3:=Tryz.sizeOf3
 v3:=Tryz.zeroValue3
 t4:=Tryz.underlying4
 a4:=Tryz.isAgg4
 z4:=Tryz.sizeOf4
 v4:=Tryz.zeroValue4
 t22:=Tryz.underlying51
 a22:=Tryz.isAgg51
 z22:=Tryz.sizeOf51
 v22:=Tryz.zeroValue51
 i3:=by kernel_rfl }
open Go.RowKit Go.Lib Go.Sort in
theorem Tryz.slices_Compact_int(blk off cap:Nat)(zs:List Int)(w:World)(hH:Holds (Value.int .i64) w blk off zs.toArray)(hsz:zs.length<=9223372036854775807)(hcap:zs.length<=cap):
  Calls Tryz.prog 186 #[.slice (some ⟨blk,off,none⟩) zs.length cap] w fun e w'=>e=.returned (.slice (some ⟨blk,off,none⟩) (Lib.compact zs).length cap)/\∃q,w'=putRow (Value.int .i64) (Sort.ahead w q) blk off (Lib.compact zs++List.replicate (zs.length - (Lib.compact zs).length) 0).toArray:=Any.slices_Compact_int Tryz.laysNm220 blk off cap zs w hH hsz hcap
open Go.RowKit Go.Lib Go.Sort in
theorem Tryz.slices_Compact_int_empty(a:Option Addr)(cap:Nat)(w:World):
  Calls Tryz.prog 186 #[.slice a 0 cap] w fun e w'=>e=.returned (.slice a 0 cap)/\w'=w:=Any.slices_Compact_int_empty Tryz.laysNm220 a cap w
def Tryz.lays194_ren:Go.Shelf.Ren:=⟨fun|194=>188|n=>n,fun|31=>22|9=>9|3=>3|4=>4|0=>0|n=>n,fun|n=>n⟩
theorem Tryz.lays194:Go.Proofs.Lays.n194 Tryz.prog Tryz.lays194_ren:={
 mixed:=by kernel_rfl
 f194:=Tryz.func188.trans (congrArg some (by kernel_rfl))
 t0:=Tryz.underlying0
 a0:=Tryz.isAgg0
 z0:=Tryz.sizeOf0
 v0:=Tryz.zeroValue0
 t3:=Tryz.underlying3
 a3:=Tryz.isAgg3
 z3:=Tryz.sizeOf3
 v3:=Tryz.zeroValue3
 t4:=Tryz.underlying4
 a4:=Tryz.isAgg4
 z4:=Tryz.sizeOf4
 v4:=Tryz.zeroValue4
 t9:=Tryz.underlying9
 a9:=Tryz.isAgg9
 z9:=Tryz.sizeOf9
 v9:=Tryz.zeroValue9
 t31:=Tryz.underlying22
 a31:=Tryz.isAgg22
 z31:=Tryz.sizeOf22
 v31:=Tryz.zeroValue22 }
open Go.RowKit Go.Lib Go.Sort in
theorem Tryz.slices_Compact_string(blk off cap:Nat)(zs:List (List UInt8))(w:World)(hH:Holds encStr w blk off zs.toArray)(hsz:zs.length<=9223372036854775807)(hcap:zs.length<=cap):
  Calls Tryz.prog 188 #[.slice (some ⟨blk,off,none⟩) zs.length cap] w fun e w'=>e=.returned (.slice (some ⟨blk,off,none⟩) (Lib.compact zs).length cap)/\∃q,w'=putRow encStr (Sort.ahead w q) blk off (Lib.compact zs++List.replicate (zs.length - (Lib.compact zs).length) []).toArray:=Any.slices_Compact_string Tryz.lays194 blk off cap zs w hH hsz hcap
open Go.RowKit Go.Lib Go.Sort in
theorem Tryz.slices_Compact_string_empty(a:Option Addr)(cap:Nat)(w:World):
  Calls Tryz.prog 188 #[.slice a 0 cap] w fun e w'=>e=.returned (.slice a 0 cap)/\w'=w:=Any.slices_Compact_string_empty Tryz.lays194 a cap w
open Go.RowKit Go.Sort in
theorem Tryz.slices_Sort_string_none(p:Option Addr)(cap:Nat)(w:World):
  Calls Tryz.prog 109 #[.slice p 0 cap] w fun e w'=>e=.returned (.tuple #[])/\w'=w:=Any.slices_Sort_string_none Tryz.lays190 p cap w
open Go.RowKit Go.Sort in
theorem Tryz.slices_Sort_int_none(p:Option Addr)(cap:Nat)(w:World):
  Calls Tryz.prog 59 #[.slice p 0 cap] w fun e w'=>e=.returned (.tuple #[])/\w'=w:=Any.slices_Sort_int_none Tryz.lays189 p cap w
end Go.Proofs
namespace Go.Proofs.YtelmfadihfcgnaaGreatDoor
open Go Go.Pv
def FQ:List V->Option V
 |[.con (.string s)]=>(match Lib.atoi s.data.toList with
  |some n=>(match Nat.ble s.size 18 with|true=>some (.tup [.con (.int .i64 n),.con .nilIface])|false=>none)
  |none=>none)
 |_=>none
theorem FP{gl:Gl}{avs:List V}{v:V}(h:FQ avs=some v):ek gl Tryz.prog 197 avs v:=by
 unfold FQ at h;split at h
 ·rename_i s;split at h
  ·rename_i n hn;split at h
   ·rename_i hl;simp only[av9] at h;subst h;refine tK (l:=[.string s]) (v:=.tuple #[.int .i64 n,.nilIface]) (fun w=>(Go.Proofs.Tryz.strconv_Atoi s n (av8 hl) hn w).mono ?_) (fun m=>.tup Y fun i c v a b=>?_)
    ·rintro e w' ⟨rfl,t,rfl⟩
     exact⟨Y,Go.Joins.below_bytesWorld _ w 5 t (ae9 _),trivial⟩
    ·match i with
     |0=>simp at a b;subst a b;exact .con _
     |1=>simp at a b;subst a b;exact .con _
     |i+2=>simp at a
   ·simp at h
  ·simp at h
 ·simp at h
def Ol:XT:=[(197,FQ)]
theorem KH{gl:Gl}:OH gl Tryz.prog Ol:=by
 intro p hp;simp only[Ol,aq9,List.not_mem_nil,or_false] at hp;subst hp;exact⟨by kernel_rfl,fun avs v h=>FP h⟩
theorem N2:Tryz.prog.follows .mixedOrders=true:=by kernel_rfl
theorem Gg:SG QZ Ol QY Om 6000 11 []=some (.con (.bool true)):=by kernel_rfl
theorem Ee{gl:Gl}:ek gl Tryz.prog 11 [] (bV true):=Oo KK KH KI KJ N2 Gg
end Go.Proofs.YtelmfadihfcgnaaGreatDoor
/-
 DERIVED: THE SHELF's CONTRACTS AT THIS DUMP, IN PLAIN WORDS (tools/lay-plain.mjs out of 'TryzShelf.lean', which tools/lay-shelf.mjs wrote): THE SAME DECLARATIONS UNDER THE SAME NAMES: 'import', 'namespace', 'open', 'def', 'theorem' AND NOTHING ELSE: no command of the shelf's: FOR A HAND-IN. Each laying: the table of numbers ('.._ren') and one theorem, a field a fact of the dump's own or the kernel's comparison; each contract: ONE APPLICATION.
-/
namespace Go.Proofs
open Go.Shelf
def Tryz.lz47_ren:Go.Shelf.Ren:=⟨fun|6=>47|8=>108|9=>109|11=>145|13=>115|12=>146|23=>161|24=>162|14=>198|15=>199|16=>200|17=>201|18=>202|19=>203|20=>204|21=>205|22=>206|25=>228|26=>209|27=>210|28=>229|29=>230|30=>231|31=>246|n=>n,fun|26=>9|28=>101|24=>22|0=>0|3=>3|37=>194|48=>237|50=>239|4=>4|40=>230|39=>229|45=>124|5=>5|9=>9|51=>269|55=>273|57=>284|58=>144|33=>37|n=>n,fun|n=>n⟩
theorem Tryz.lz47:Go.Proofs.SlLaysZ.n6 Tryz.prog Tryz.lz47_ren:={
 mixed:=by kernel_rfl
 f6:=⟨Tryz.f47.name,by decide,Tryz.func47.trans (congrArg some (by kernel_rfl))⟩
 f8:=⟨Tryz.f108.name,by decide,Tryz.func108.trans (congrArg some (by kernel_rfl))⟩
 f11:=⟨Tryz.f145.name,by decide,Tryz.func145.trans (congrArg some (by kernel_rfl))⟩
 t0:=Tryz.underlying0
 a0:=Tryz.isAgg0
 z0:=Tryz.sizeOf0
 v0:=Tryz.zeroValue0
 t24:=Tryz.underlying22
 a24:=Tryz.isAgg22
 z24:=Tryz.sizeOf22
 v24:=Tryz.zeroValue22
 t26:=Tryz.underlying9
 a26:=Tryz.isAgg9
 z26:=Tryz.sizeOf9
 v26:=Tryz.zeroValue9
 t28:=Tryz.underlying101
 a28:=Tryz.isAgg101
 z28:=Tryz.sizeOf101
 v28:=Tryz.zeroValue101
 i26:=by kernel_rfl }
def Tryz.lz48_ren:Go.Shelf.Ren:=⟨fun|7=>48|10=>110|n=>n,fun|23=>77|26=>9|3=>103|28=>101|0=>0|27=>100|33=>37|4=>4|n=>n,fun|n=>n⟩
theorem Tryz.lz48:Go.Proofs.SlLaysZ.n7 Tryz.prog Tryz.lz48_ren:={
 mixed:=by kernel_rfl
 f7:=⟨Tryz.f48.name,by decide,Tryz.func48.trans (congrArg some (by kernel_rfl))⟩
 f10:=⟨Tryz.f110.name,by decide,Tryz.func110.trans (congrArg some (by kernel_rfl))⟩
 t0:=Tryz.underlying0
 a0:=Tryz.isAgg0
 z0:=Tryz.sizeOf0
 v0:=Tryz.zeroValue0
 t4:=Tryz.underlying4
 a4:=Tryz.isAgg4
 z4:=Tryz.sizeOf4
 v4:=Tryz.zeroValue4
 t23:=Tryz.underlying77
 a23:=Tryz.isAgg77
 z23:=Tryz.sizeOf77
 v23:=Tryz.zeroValue77
 t26:=Tryz.underlying9
 a26:=Tryz.isAgg9
 z26:=Tryz.sizeOf9
 v26:=Tryz.zeroValue9
 t27:=Tryz.underlying100
 a27:=Tryz.isAgg100
 z27:=Tryz.sizeOf100
 v27:=Tryz.zeroValue100
 t28:=Tryz.underlying101
 a28:=Tryz.isAgg101
 z28:=Tryz.sizeOf101
 v28:=Tryz.zeroValue101
 t33:=Tryz.underlying37
 a33:=Tryz.isAgg37
 z33:=Tryz.sizeOf37
 v33:=Tryz.zeroValue37 }
def Tryz.lz110_ren:Go.Shelf.Ren:=⟨fun|10=>110|n=>n,fun|33=>37|23=>77|0=>0|4=>4|26=>9|3=>103|n=>n,fun|n=>n⟩
theorem Tryz.lz110:Go.Proofs.SlLaysZ.n10 Tryz.prog Tryz.lz110_ren:={
 mixed:=by kernel_rfl
 f10:=⟨Tryz.f110.name,by decide,Tryz.func110.trans (congrArg some (by kernel_rfl))⟩
 t0:=Tryz.underlying0
 a0:=Tryz.isAgg0
 z0:=Tryz.sizeOf0
 v0:=Tryz.zeroValue0
 t4:=Tryz.underlying4
 a4:=Tryz.isAgg4
 z4:=Tryz.sizeOf4
 v4:=Tryz.zeroValue4
 t23:=Tryz.underlying77
 a23:=Tryz.isAgg77
 z23:=Tryz.sizeOf77
 v23:=Tryz.zeroValue77
 t26:=Tryz.underlying9
 a26:=Tryz.isAgg9
 z26:=Tryz.sizeOf9
 v26:=Tryz.zeroValue9
 t33:=Tryz.underlying37
 a33:=Tryz.isAgg37
 z33:=Tryz.sizeOf37
 v33:=Tryz.zeroValue37 }
def Tryz.lz91_ren:Go.Shelf.Ren:=⟨fun|7=>91|10=>133|n=>n,fun|23=>91|26=>9|3=>98|28=>101|0=>0|27=>100|33=>37|4=>4|n=>n,fun|n=>n⟩
theorem Tryz.lz91:Go.Proofs.SlLaysZ.n7 Tryz.prog Tryz.lz91_ren:={
 mixed:=by kernel_rfl
 f7:=⟨Tryz.f91.name,by decide,Tryz.func91.trans (congrArg some (by kernel_rfl))⟩
 f10:=⟨Tryz.f133.name,by decide,Tryz.func133.trans (congrArg some (by kernel_rfl))⟩
 t0:=Tryz.underlying0
 a0:=Tryz.isAgg0
 z0:=Tryz.sizeOf0
 v0:=Tryz.zeroValue0
 t4:=Tryz.underlying4
 a4:=Tryz.isAgg4
 z4:=Tryz.sizeOf4
 v4:=Tryz.zeroValue4
 t23:=Tryz.underlying91
 a23:=Tryz.isAgg91
 z23:=Tryz.sizeOf91
 v23:=Tryz.zeroValue91
 t26:=Tryz.underlying9
 a26:=Tryz.isAgg9
 z26:=Tryz.sizeOf9
 v26:=Tryz.zeroValue9
 t27:=Tryz.underlying100
 a27:=Tryz.isAgg100
 z27:=Tryz.sizeOf100
 v27:=Tryz.zeroValue100
 t28:=Tryz.underlying101
 a28:=Tryz.isAgg101
 z28:=Tryz.sizeOf101
 v28:=Tryz.zeroValue101
 t33:=Tryz.underlying37
 a33:=Tryz.isAgg37
 z33:=Tryz.sizeOf37
 v33:=Tryz.zeroValue37 }
def Tryz.lz133_ren:Go.Shelf.Ren:=⟨fun|10=>133|n=>n,fun|33=>37|23=>91|0=>0|4=>4|26=>9|3=>98|n=>n,fun|n=>n⟩
theorem Tryz.lz133:Go.Proofs.SlLaysZ.n10 Tryz.prog Tryz.lz133_ren:={
 mixed:=by kernel_rfl
 f10:=⟨Tryz.f133.name,by decide,Tryz.func133.trans (congrArg some (by kernel_rfl))⟩
 t0:=Tryz.underlying0
 a0:=Tryz.isAgg0
 z0:=Tryz.sizeOf0
 v0:=Tryz.zeroValue0
 t4:=Tryz.underlying4
 a4:=Tryz.isAgg4
 z4:=Tryz.sizeOf4
 v4:=Tryz.zeroValue4
 t23:=Tryz.underlying91
 a23:=Tryz.isAgg91
 z23:=Tryz.sizeOf91
 v23:=Tryz.zeroValue91
 t26:=Tryz.underlying9
 a26:=Tryz.isAgg9
 z26:=Tryz.sizeOf9
 v26:=Tryz.zeroValue9
 t33:=Tryz.underlying37
 a33:=Tryz.isAgg37
 z33:=Tryz.sizeOf37
 v33:=Tryz.zeroValue37 }
end Go.Proofs
namespace Go.Proofs.YtelmfadihfcgnaaGreatDoor
open Go Go.Pv
set_option maxRecDepth 100000
theorem xq:(Tryz.prog.info? 103).bind (·.zero)=some (.pointer none):=by kernel_rfl
theorem Gr:F8 Tryz.prog 103=true:=by kernel_rfl
theorem qb(p:B8×(Option ai)):aQ p=((fun k=>str k) p.1,sk 161 bX p.2):=rfl
theorem ae.holePR{n:Nat}{σ:Nat->Nat}{a1:B8}{xs:ff}{i j:Nat}(h1:Nat.blt j n=true)(h2:σ j=i):
  ae (Ren n σ) (.map (holeP aQ (.ptr j 7 0 0) a1 xs)) (.map (holeP aQ (.ptr i 7 0 0) a1 xs)):=
 ae.holeP aQ a1 (jJ.sub (ap.ptr h1 h2) rfl) (fun p=>jJ.same md.h (ap.kp (wB _ _))) xs
theorem yt{K:dE}{S:St}(id nid a b c:Nat){xs:ff}{k0:B8}(l1 l2:br)(l3:bx)(t1 t2 t3:Bool)(w:Int)(hs:(aY xs k0).isSome=true)
  (ho:ao S.hp id=.map (holeP aQ (.ptr nid 7 0 0) k0 xs)) (h1:ao S.hp nid=.arr 161 7 [[.own a l1.length,.own b l2.length,.own c l3.length,bV t1,bV t2,bV t3,iV w]])
  (ha:ao S.hp a=.arr 9 1 (l1.map au)) (hb:ao S.hp b=.arr 9 1 (l2.map au)) (hc:ao S.hp c=.arr 3 1 (l3.map af))
  (hd:([id,nid,a,b,c]:List Nat).Nodup):bb K S ⟨S.env,(id,.map ((cK xs k0 (some ⟨l1,l2,l3,t1,t2,t3,w⟩)).map aQ))::(a,.dead)::(b,.dead)::(c,.dead)::(nid,.dead)::S.hp,S.nx⟩:=by
 simp only[aa9,aq9,List.not_mem_nil,or_false,not_or,not_false_eq_true,List.nodup_nil,and_true] at hd;obtain⟨⟨d1,d2,d3,d4⟩,⟨d5,d6,d7⟩,⟨d8,d9⟩,d10⟩:=hd
 have bf:∀{i j:Nat},i≠j->Nat.beq i j=false:=fun h=>by
  cases e:Nat.beq _ _ with
  |false=>rfl
  |true=>exact absurd (cd8 e) h
 refine bb.trans (lE nid 0 0 a h1 rfl rfl ha (be8 _).symm (bf d5) (fun r hr=>by obtain⟨z,_,rfl⟩:=bb9.1 hr;exact(bc z).keep)) ?_;refine bb.trans (lE nid 0 1 b (n:=l2.length) (by rw[oi]) rfl rfl (by rw[ar,if_neg d6,ar,if_neg d8];exact hb) (be8 _).symm (bf d6) (fun r hr=>by obtain⟨z,_,rfl⟩:=bb9.1 hr;exact(bc z).keep)) ?_;refine bb.trans (lE nid 0 2 c (n:=l3.length) (by rw[oi]) rfl rfl (by rw[ar,if_neg d7,ar,if_neg d10,ar,if_neg d7,ar,if_neg d9];exact hc) (be8 _).symm (bf d7) (fun r hr=>by obtain⟨z,_,rfl⟩:=bb9.1 hr;exact(aX z).keep)) ?_
 refine bb.trans (B7 id nid (y:=(⟨l1,l2,l3,t1,t2,t3,w⟩:ai)) aQ (fun k=>str k) bX 161 7 qb hs (by
  simp only[ar];rw[if_neg (Ne.symm d1),if_neg (Ne.symm d4),if_neg (Ne.symm d1),if_neg (Ne.symm d3),if_neg (Ne.symm d1),if_neg (Ne.symm d2)];exact ho) (by rw[oi];rfl) (bf d1) (EK.h _)) ?_
 refine E4 _ fun q=>?_;simp only[ar];by_cases q1:id=q
 ·simp[q1]
 ·by_cases q2:nid=q
  ·subst q2;simp[q1,Ne.symm d5,Ne.symm d6,Ne.symm d7]
  ·simp only[if_neg q1,if_neg q2];by_cases q3:a=q
   ·subst q3;simp[Ne.symm d8,Ne.symm d9]
   ·by_cases q4:b=q
    ·subst q4;simp[q3,Ne.symm d10]
    ·simp[q3,q4]
theorem qv{F:Nat}{a1:B8}{a2:ff}{r}(h:I5 F a1 a2=some r):(aY r.1 a1).isSome=true:=by
 unfold I5 at h;split at h
 ·cases h;simp[dM]
 ·cases h
 ·rename_i s hs;cases h;simp[hs]
theorem NU(F:Nat)(a1:B8)(a2:ff)(r:(ff×ai))(h:I5 F a1 a2=some r):sE Tryz.prog 89 [(sV a1),(V.ptr 0 1 0 0)] 2 [(0,(Ob.arr 77 1 [[(V.map 1)]])),(1,(Ob.map (a2.map aQ)))] (eS [(V.ptr 2 7 0 0)]) 6 [(0,(Ob.arr 77 1 [[(V.map 1)]])),(1,(Ob.map (holeP aQ (V.ptr 2 7 0 0) a1 r.1))),(2,(Ob.arr 161 7 [[(V.own 3 r.2.is.length),(V.own 4 r.2.begins.length),(V.own 5 r.2.numbers.length),(bV r.2.asText),(bV r.2.asNo),(bV r.2.has),(iV r.2.weight)]])),(3,(Ob.arr 9 1 (r.2.is.map au))),(4,(Ob.arr 9 1 (r.2.begins.map au))),(5,(Ob.arr 3 1 (r.2.numbers.map af)))]:=by
 unfold I5 at h;have key:∀(xs:ff) (s:ai),(aY xs a1).isSome=true->jA (str a1) (holeP aQ (V.ptr 2 7 0 0) a1 xs) (some (V.ptr 2 7 0 0)):=fun xs s hs=>ug aQ (fun k=>str k) bX 161 a1 (V.ptr 2 7 0 0) qb (fun a b h=>eO a b h) xs hs;have good:∀xs:ff,∀p,p∈holeP aQ (V.ptr 2 7 0 0) a1 xs->oR p.1:=fun xs=>ui aQ a1 _ (fun _=>⟨_,rfl⟩) xs;cases hm:aY a2 a1 with
 |none=>
  rw[hm] at h;replace h:=ah8 h;subst h;refine du Tryz.func89 Y Y (l:=[.tmp 3]) Y Y [(0,(sV a1)),(1,(V.ptr 0 1 0 0))] Y (fun w0 m0 β0 hg=>en ?_);refine rn 9 Y ?_;refine cQ none (V.con (.pointer none)) (V.con (.pointer none)) pa eL xq (ii _) aa Y (.own Y) (.con Y) ⟨_,Y⟩ mU (tZ aQ (fun k=>str k) bX 161 a1 qb (fun a b h=>eO a b h) a2 hm) Y Y ?_;refine AU Gr aa Y Y Y ?_;refine fo (rn 7 Y ?_);refine aU (dw 2 9 1 (.arr 161 7 [[V.own 3 0,nV,nV,bV false,bV false,bV false,iV 2]]) (ae.box (.cons ap.mkNil (.cons ap.keepNil (.cons ap.keepNil (.cons ap.keepNil (.cons ap.keepNil (.cons ap.keepNil (.cons ap.keepNil .nil))))))))) ?_;refine aU (dw 2 9 1 (.arr 161 7 [[V.own 3 0,V.own 4 0,nV,bV false,bV false,bV false,iV 2]]) (ae.box (.cons ap.keepNil (.cons ap.mkNil (.cons ap.keepNil (.cons ap.keepNil (.cons ap.keepNil (.cons ap.keepNil (.cons ap.keepNil .nil))))))))) ?_;refine aU (dw 2 3 1 (.arr 161 7 [[V.own 3 0,V.own 4 0,V.own 5 0,bV false,bV false,bV false,iV 2]]) (ae.box (.cons ap.keepNil (.cons ap.keepNil (.cons ap.mkNil (.cons ap.keepNil (.cons ap.keepNil (.cons ap.keepNil (.cons ap.keepNil .nil))))))))) ?_
  refine dC (es:=a2.map aQ) (holeP aQ (V.ptr 2 7 0 0) a1 (cK a2 a1 (some (ai.mk [] [] [] false false false 2)))) pa eL aa Y Y (.con Y) ⟨_,Y⟩ mU Y
   (v8 aQ (fun k=>str k) bX 161 a1 (V.ptr 2 7 0 0) (some (ai.mk [] [] [] false false false 2)) qb (fun a b h=>eO a b h) a2 hm) ?_
  refine fo (rn 5 Y ?_);refine cQ (some (V.ptr 2 7 0 0)) (V.con (.pointer none)) (V.ptr 2 7 0 0) pa eL xq (ii _) aa Y (.own Y) (.con Y) ⟨_,Y⟩ (good _) (key _ (ai.mk [] [] [] false false false 2) (by simp[dM])) Y Y ?_;refine fo (rn 2 Y ?_);exact wR ⟨.inl Y,[(3,V.ptr 2 7 0 0)],(bh 6 (fun i=>([0,1,2,3,4,5]:List Nat).getD i 0) _ _ (by decide) (bY.get (.cons (ap.ptr Y Y) .nil)) (bT.get (.cons Y (ae.box (.cons (ap.map Y Y) .nil)) (.cons Y (ae.holePR Y Y) (.cons Y (ae.box (.cons (ap.own Y Y) (.cons (ap.own Y Y) (.cons (ap.own Y Y) (.cons Yc (.cons Yc (.cons Yc (.cons Yc .nil)))))))) (.cons Y (ae.rows (aj bc)) (.cons Y (ae.rows (aj bc)) (.cons Y (ae.rows (aj aX)) .nil))))))) Y),.cons (.tmp Y) .nil⟩
 |some q=>
  rw[hm] at h;cases q with
  |none=>cases h
  |some s=>
   replace h:=ah8 h;subst h;refine du Tryz.func89 Y Y (l:=[.tmp 3]) Y Y [(0,(sV a1)),(1,(V.ptr 0 1 0 0))] Y (fun w0 m0 β0 hg=>en ?_);refine rn 9 Y ?_;refine aU (Ar 1 2 aQ (fun k=>str k) bX 161 7 qb Y hm Y Y) ?_;refine aU (pg 2 0 0 3 (rows:=[bX s]) Y Y Y Y) ?_;refine aU (pg 2 0 1 4 (e:=161) (k:=7) (rows:=[[V.own 3 s.is.length,(V.dsl 9 1 (s.begins.map au)),(V.dsl 3 1 (s.numbers.map af)),(bV s.asText),(bV s.asNo),(bV s.has),(iV s.weight)]]) (by simp[ar,sc,bX]) Y Y Y) ?_;refine aU (pg 2 0 2 5 (e:=161) (k:=7) (rows:=[[V.own 3 s.is.length,V.own 4 s.begins.length,(V.dsl 3 1 (s.numbers.map af)),(bV s.asText),(bV s.asNo),(bV s.has),(iV s.weight)]]) (by simp[ar,sc]) Y Y Y) ?_;refine aU (Aq 2 (.arr 161 7 [[V.own 3 s.is.length,V.own 4 s.begins.length,V.own 5 s.numbers.length,(bV s.asText),(bV s.asNo),(bV s.has),(iV s.weight)]]) (ob0:=.arr 161 7 [[V.own 3 s.is.length,V.own 4 s.begins.length,V.own 5 s.numbers.length,(bV s.asText),(bV s.asNo),(bV s.has),(iV s.weight)]]) (by simp[ar,sc]) (ae.keep (fun _=>ap.keepI) _)) ?_;refine cQ (some (V.ptr 2 7 0 0)) (V.con (.pointer none)) (V.ptr 2 7 0 0) pa eL xq (ii _) aa Y (.own Y) (.con Y) ⟨_,Y⟩ (good _) (key _ s (by simp[hm])) Y Y ?_;refine AS Gr aa Y Y Y ?_;refine fo (rn 7 Y ?_);refine cQ (some (V.ptr 2 7 0 0)) (V.con (.pointer none)) (V.ptr 2 7 0 0) pa eL xq (ii _) aa Y (.own Y) (.con Y) ⟨_,Y⟩ (good _) (key _ s (by simp[hm])) Y Y ?_;refine fo (rn 2 Y ?_);exact wR ⟨.inl Y,[(3,V.ptr 2 7 0 0)],(bh 6 (fun i=>([0,1,2,3,4,5]:List Nat).getD i 0) _ _ (by decide) (bY.get (.cons (ap.ptr Y Y) .nil)) (bT.get (.cons Y (ae.box (.cons (ap.map Y Y) .nil)) (.cons Y (ae.holePR Y Y) (.cons Y (ae.box (.cons (ap.own Y Y) (.cons (ap.own Y Y) (.cons (ap.own Y Y) (.cons Yc (.cons Yc (.cons Yc (.cons Yc .nil)))))))) (.cons Y (ae.rows (aj bc)) (.cons Y (ae.rows (aj bc)) (.cons Y (ae.rows (aj aX)) .nil))))))) Y),.cons (.tmp Y) .nil⟩
end Go.Proofs.YtelmfadihfcgnaaGreatDoor
