/- Part of the proof. -/
import Derived.Test.YtelmfadihfcgnaaGreatDoorGEW
import Derived.Shelf.Strconv.Atoi
import Derived.Shelf.Slices.CompactI
import Derived.Shelf.Slices.CompactS
import Derived.Shelf.Slices.Empties
import Derived.Shelf.SlicesE.Delete
import Derived.Shelf.SlSortCmp.NoneTotal
import Derived.Lib.SmallJoins
set_option linter.unusedSimpArgs false
set_option linter.unusedVariables false
namespace Go.Proofs.YtelmfadihfcgnaaGreatDoor
open Go Go.Pv
set_option maxRecDepth 100000
noncomputable def M7:FT:=[(11,Tryz.f11),(19,Tryz.f19),(30,Tryz.f30),(31,Tryz.f31),(32,Tryz.f32),(42,Tryz.f42),(43,Tryz.f43),(44,Tryz.f44),(50,Tryz.f50),(54,Tryz.f54),(60,Tryz.f60),(61,Tryz.f61),(62,Tryz.f62),(72,Tryz.f72),(74,Tryz.f74),(86,Tryz.f86),(87,Tryz.f87),(88,Tryz.f88),(100,Tryz.f100),(101,Tryz.f101),(102,Tryz.f102),(103,Tryz.f103),(104,Tryz.f104),(105,Tryz.f105),(106,Tryz.f106),(113,Tryz.f113),(116,Tryz.f116),(117,Tryz.f117),(118,Tryz.f118),(121,Tryz.f121),(128,Tryz.f128),(129,Tryz.f129),(130,Tryz.f130),(135,Tryz.f135),(136,Tryz.f136),(137,Tryz.f137),(138,Tryz.f138),(139,Tryz.f139),(140,Tryz.f140),(141,Tryz.f141),(142,Tryz.f142),(143,Tryz.f143),(144,Tryz.f144),(149,Tryz.f149),(150,Tryz.f150),(151,Tryz.f151),(162,Tryz.f162),(163,Tryz.f163),(164,Tryz.f164),(165,Tryz.f165),(190,Tryz.f190),(191,Tryz.f191),(192,Tryz.f192),(193,Tryz.f193),(194,Tryz.f194),(195,Tryz.f195),(196,Tryz.f196),(197,Tryz.f197),(207,Tryz.f207),(214,Tryz.f214),(224,Tryz.f224),(225,Tryz.f225),(226,Tryz.f226),(227,Tryz.f227),(234,Tryz.f234),(237,Tryz.f237),(239,Tryz.f239),(240,Tryz.f240),(241,Tryz.f241),(242,Tryz.f242),(243,Tryz.f243),(244,Tryz.f244),(245,Tryz.f245),(247,Tryz.f247),(248,Tryz.f248),(249,Tryz.f249),(250,Tryz.f250),(251,Tryz.f251),(252,Tryz.f252),(253,Tryz.f253),(254,Tryz.f254),(255,Tryz.f255),(256,Tryz.f256),(257,Tryz.f257),(258,Tryz.f258),(259,Tryz.f259),(260,Tryz.f260),(261,Tryz.f261),(262,Tryz.f262),(263,Tryz.f263),(264,Tryz.f264),(265,Tryz.f265),(281,Tryz.f281),(282,Tryz.f282),(283,Tryz.f283),(284,Tryz.f284),(285,Tryz.f285),(286,Tryz.f286),(287,Tryz.f287),(288,Tryz.f288),(289,Tryz.f289),(290,Tryz.f290),(291,Tryz.f291)]
theorem H8:Jm Tryz.prog M7:=MX [11,19,30,31,32,42,43,44,50,54,60,61,62,72,74,86,87,88,100,101,102,103,104,105,106,113,116,117,118,121,128,129,130,135,136,137,138,139,140,141,142,143,144,149,150,151,162,163,164,165,190,191,192,193,194,195,196,197,207,214,224,225,226,227,234,237,239,240,241,242,243,244,245,247,248,249,250,251,252,253,254,255,256,257,258,259,260,261,262,263,264,265,281,282,283,284,285,286,287,288,289,290,291] (by kernel_rfl) (by kernel_rfl)
def M6:TT:=[(2,[.I .i64,.U]),(3,[.C,.S 1,.Z 1 [.int .i64 0],.I .i64,.U]),(4,[.S 1,.C]),(5,[.Z 1 [.int .u8 0],.I .u8,.U,.C,.S 1]),(9,[.Str,.C,.S 1,.Z 1 [.string ⟨#[]⟩],.U,.Cn]),(22,[.C,.El 9 1 16,.Sn,.Sl 1,.S 1]),(23,[.C,.Sn,.Sl 6,.El 25 6 88,.S 1]),(25,[.S 6,.A 6,.F 5 5,.Z 6 [.int .i64 0,.string ⟨#[]⟩,.slice none 0 0,.int .i64 0,.int .i64 0,.slice none 0 0],.F 0 0,.F 1 1,.F 2 2,.F 3 3,.F 4 4,.Pl [(0,1),(1,1),(2,1),(3,1),(4,1),(5,1)]]),(26,[.C,.Sn,.Sl 2]),(27,[.El 41 2 24,.C,.Sn,.Sl 2]),(29,[.Z 4 [.string ⟨#[]⟩,.string ⟨#[]⟩,.slice none 0 0,.slice none 0 0],.Pl [(0,1),(1,1),(2,1),(3,1)],.S 4,.F 0 0,.F 1 1,.F 2 2,.F 3 3,.A 4]),(30,[.C,.S 1]),(39,[.A 2,.Z 2 [.string ⟨#[]⟩,.string ⟨#[]⟩],.S 2,.F 0 0,.F 1 1]),(41,[.Z 2 [.string ⟨#[]⟩,.int .i64 0],.Pl [(0,1),(1,1)],.A 2,.S 2,.F 0 0,.F 1 1]),(46,[.C,.El 58 9 128,.Sn,.S 1,.Sl 9]),(47,[.C,.El 185 6 72,.Sn,.S 1,.Sl 6]),(49,[.Z 2 [.slice none 0 0,.slice none 0 0],.S 2,.A 2,.Pl [(0,1),(1,1)],.F 0 0,.F 1 1]),(50,[.El 29 4 80,.Sn,.Sl 4]),(51,[.C,.Sn,.Sl 1,.El 3 1 8,.S 1]),(54,[.Sn,.Sl 4,.El 61 4 32]),(58,[.Z 9 [.string ⟨#[]⟩,.string ⟨#[]⟩,.int .i64 0,.string ⟨#[]⟩,.slice none 0 0,.int .i64 0,.int .i64 0,.slice none 0 0,.int .i64 0],.A 9,.S 9,.F 0 0,.F 1 1,.F 2 2,.F 3 8,.Pl [(0,1),(1,1),(2,6),(8,1)]]),(61,[.F 3 3,.Z 4 [.int .i64 0,.int .i64 0,.int .i64 0,.int .i64 0],.Pl [(0,1),(1,1),(2,1),(3,1)],.S 4,.F 2 2,.A 4]),(75,[.Z 1 [.nilIface],.C]),(91,[.C]),(92,[.C,.Mn]),(94,[.A 2,.Z 2 [.map none,.map none],.Pl [(0,1),(1,1)],.S 2,.F 0 0,.F 1 1]),(98,[.Z 4 [.bool false,.bool false,.string ⟨#[]⟩,.int .i64 0],.S 4,.F 0 0,.F 2 2,.A 4,.F 1 1,.F 3 3]),(109,[.El 75 1 16,.Sn,.Sl 1,.C]),(115,[.Sn,.Sl 3,.El 197 3 40]),(147,[.Z 2 [.string ⟨#[]⟩,.slice none 0 0],.Pl [(0,1),(1,1)],.Cn,.S 2,.F 0 0,.F 1 1,.M "provender/policy.holds" 282]),(148,[.Z 2 [.string ⟨#[]⟩,.slice none 0 0],.Pl [(0,1),(1,1)],.Cn,.S 2,.F 0 0,.F 1 1,.M "provender/policy.holds" 283]),(150,[.Z 1 [.string ⟨#[]⟩],.Pl [(0,1)],.Cn,.S 1,.F 0 0,.M "provender/policy.holds" 285]),(152,[.Z 3 [.string ⟨#[]⟩,.int .i64 0,.int .i64 0],.Pl [(0,1),(1,1),(2,1)],.Cn,.S 3,.F 0 0,.F 1 1,.F 2 2,.M "provender/policy.holds" 286]),(154,[.Z 1 [.nilIface],.Pl [(0,1)],.Cn,.S 1,.F 0 0,.M "provender/policy.holds" 288]),(156,[.Z 1 [.slice none 0 0],.Pl [(0,1)],.Cn,.S 1,.F 0 0,.M "provender/policy.holds" 289]),(157,[.Z 1 [.slice none 0 0],.Pl [(0,1)],.Cn,.S 1,.F 0 0,.M "provender/policy.holds" 290]),(159,[.Z 0 [],.Pl [],.Cn,.S 0,.M "provender/policy.holds" 291]),(177,[.S 1,.C]),(179,[.F 0 0,.F 2 2,.Z 3 [.int .i64 0,.string ⟨#[]⟩,.int .i64 0],.Pl [(0,1),(1,1),(2,1)],.S 3,.F 1 1,.A 3]),(181,[.Z 7 [.string ⟨#[]⟩,.int .i64 0,.int .i64 0,.string ⟨#[]⟩,.int .i64 0,.int .i64 0,.int .i64 0],.Pl [(0,1),(1,1),(2,3),(5,1),(6,1)],.S 7,.F 2 2,.F 4 6,.F 3 5,.F 1 1,.F 0 0]),(185,[.Z 6 [.string ⟨#[]⟩,.string ⟨#[]⟩,.int .i64 0,.int .i64 0,.string ⟨#[]⟩,.int .i64 0],.A 6,.S 6,.F 2 2,.F 3 3,.F 5 5,.F 0 0,.Pl [(0,1),(1,1),(2,1),(3,1),(4,1),(5,1)],.F 1 1,.F 4 4]),(194,[.I .u64,.U]),(197,[.A 3,.Z 3 [.int .i64 0,.int .i64 0,.slice none 0 0],.S 3,.F 0 0,.F 1 1,.F 2 2,.Pl [(0,1),(1,1),(2,1)]]),(207,[.Z 4 [.bool false,.bool false,.bool false,.int .i64 0],.S 4,.F 0 0,.F 1 1,.F 2 2,.Pl [(0,1),(1,1),(2,1),(3,1)],.F 3 3]),(208,[.AA 9 4 207,.A 36,.Z 36 [.bool false,.bool false,.bool false,.int .i64 0,.bool false,.bool false,.bool false,.int .i64 0,.bool false,.bool false,.bool false,.int .i64 0,.bool false,.bool false,.bool false,.int .i64 0,.bool false,.bool false,.bool false,.int .i64 0,.bool false,.bool false,.bool false,.int .i64 0,.bool false,.bool false,.bool false,.int .i64 0,.bool false,.bool false,.bool false,.int .i64 0,.bool false,.bool false,.bool false,.int .i64 0],.Arr 9 4,.S 36]),(237,[.I .u32,.U]),(239,[.U,.I .u64,.C]),(257,[.U,.El 5 1 1,.Sn,.Sl 1]),(261,[.C]),(289,[.AC 6 9,.A 6,.Z 6 [.string ⟨#[]⟩,.string ⟨#[]⟩,.string ⟨#[]⟩,.string ⟨#[]⟩,.string ⟨#[]⟩,.string ⟨#[]⟩],.Arr 6 1,.S 6]),(291,[.Cn]),(294,[.Cn]),(303,[.Z 3 [.string ⟨#[]⟩,.string ⟨#[]⟩,.nilIface],.Pl [(0,1),(1,1),(2,1)],.S 3]),(308,[.Cn]),(310,[.Z 1 [.string ⟨#[]⟩],.Pl [(0,1)],.S 1]),(312,[.Z 24 [.int .u8 0,.int .u8 0,.int .u8 0,.int .u8 0,.int .u8 0,.int .u8 0,.int .u8 0,.int .u8 0,.int .u8 0,.int .u8 0,.int .u8 0,.int .u8 0,.int .u8 0,.int .u8 0,.int .u8 0,.int .u8 0,.int .u8 0,.int .u8 0,.int .u8 0,.int .u8 0,.int .u8 0,.int .u8 0,.int .u8 0,.int .u8 0],.Arr 24 1]),(317,[.Arr 20 1]),(318,[.Z 65 [.int .u8 0,.int .u8 0,.int .u8 0,.int .u8 0,.int .u8 0,.int .u8 0,.int .u8 0,.int .u8 0,.int .u8 0,.int .u8 0,.int .u8 0,.int .u8 0,.int .u8 0,.int .u8 0,.int .u8 0,.int .u8 0,.int .u8 0,.int .u8 0,.int .u8 0,.int .u8 0,.int .u8 0,.int .u8 0,.int .u8 0,.int .u8 0,.int .u8 0,.int .u8 0,.int .u8 0,.int .u8 0,.int .u8 0,.int .u8 0,.int .u8 0,.int .u8 0,.int .u8 0,.int .u8 0,.int .u8 0,.int .u8 0,.int .u8 0,.int .u8 0,.int .u8 0,.int .u8 0,.int .u8 0,.int .u8 0,.int .u8 0,.int .u8 0,.int .u8 0,.int .u8 0,.int .u8 0,.int .u8 0,.int .u8 0,.int .u8 0,.int .u8 0,.int .u8 0,.int .u8 0,.int .u8 0,.int .u8 0,.int .u8 0,.int .u8 0,.int .u8 0,.int .u8 0,.int .u8 0,.int .u8 0,.int .u8 0,.int .u8 0,.int .u8 0,.int .u8 0],.Arr 65 1]),(319,[.Arr 32 1]),(320,[.Arr 64 1])]
theorem H6:cK Tryz.prog M6:=Mr (by kernel_rfl) (by kernel_rfl) ⟨⟨fun v args w=>by kernel_rfl,fun v w=>by kernel_rfl⟩,⟨fun v args w=>by kernel_rfl,fun v w=>by kernel_rfl⟩,⟨fun v args w=>by kernel_rfl,fun v w=>by kernel_rfl⟩,⟨fun v args w=>by kernel_rfl,fun v w=>by kernel_rfl⟩,⟨fun v args w=>by kernel_rfl,fun v w=>by kernel_rfl⟩,⟨fun v args w=>by kernel_rfl,fun v w=>by kernel_rfl⟩,⟨fun v args w=>by kernel_rfl,fun v w=>by kernel_rfl⟩,⟨fun v args w=>by kernel_rfl,fun v w=>by kernel_rfl⟩,trivial⟩
def Lc:List MT:=[⟨91,9,98,true,.i64,.agg [.con (.bool false),.con (.bool false),.con (.string ⟨#[]⟩),.con (.int .i64 0)]⟩,⟨92,9,4,true,.i64,.con (.bool false)⟩]
theorem H7:s9 Tryz.prog Lc:=by
 intro p hp;simp only[Lc,aq8,List.not_mem_nil,or_false] at hp;rcases hp with rfl|rfl
 ·exact⟨by kernel_rfl,r7 (by kernel_rfl),_,by kernel_rfl,fun _=>(FD [Value.bool false,Value.bool false,Value.string ⟨#[]⟩,Value.int .i64 0])⟩
 ·exact⟨by kernel_rfl,r7 (by kernel_rfl),_,by kernel_rfl,fun _=>(.con _)⟩
end Go.Proofs.YtelmfadihfcgnaaGreatDoor
/-
 DERIVED: THE SHELF's CONTRACTS AT THIS DUMP, IN PLAIN WORDS (tools/lay-plain.mjs out of 'TryzShelf.lean', which tools/lay-shelf.mjs wrote): THE SAME DECLARATIONS UNDER THE SAME NAMES: 'import', 'namespace', 'open', 'def', 'theorem' AND NOTHING ELSE: no command of the shelf's: FOR A HAND-IN. Each laying: the table of numbers ('.._ren') and one theorem, a field a fact of the dump's own or the kernel's comparison; each contract: ONE APPLICATION.
-/
namespace Go.Proofs
open Go.Shelf
def Tryz.lays172_ren:Go.Shelf.Ren:=⟨fun|172=>197|244=>226|245=>227|247=>241|279=>242|280=>243|281=>244|282=>245|287=>248|316=>249|171=>251|205=>250|321=>252|322=>253|243=>254|246=>255|283=>256|284=>257|285=>258|286=>259|129=>162|317=>260|318=>261|319=>262|320=>263|337=>264|338=>265|n=>n,fun|9=>9|3=>3|75=>261|76=>262|4=>4|5=>5|167=>291|37=>257|0=>0|85=>292|2=>2|168=>294|53=>239|175=>299|46=>194|210=>303|127=>307|145=>310|143=>308|21=>21|171=>312|173=>314|212=>317|51=>237|20=>20|213=>318|232=>319|233=>320|80=>218|n=>n,fun|15=>1|16=>2|17=>3|18=>4|19=>5|n=>n⟩
theorem Tryz.lays172:Go.Proofs.Lays.n172 Tryz.prog Tryz.lays172_ren:={
 mixed:=by kernel_rfl
 f129:=Tryz.func162.trans (congrArg some (by kernel_rfl))
 f171:=Tryz.func251.trans (congrArg some (by kernel_rfl))
 f172:=Tryz.func197.trans (congrArg some (by kernel_rfl))
 f205:=Tryz.func250.trans (congrArg some (by kernel_rfl))
 f243:=Tryz.func254.trans (congrArg some (by kernel_rfl))
 f244:=Tryz.func226.trans (congrArg some (by kernel_rfl))
 f245:=Tryz.func227.trans (congrArg some (by kernel_rfl))
 f246:=Tryz.func255.trans (congrArg some (by kernel_rfl))
 f247:=Tryz.func241.trans (congrArg some (by kernel_rfl))
 f279:=Tryz.func242.trans (congrArg some (by kernel_rfl))
 f280:=Tryz.func243.trans (congrArg some (by kernel_rfl))
 f281:=Tryz.func244.trans (congrArg some (by kernel_rfl))
 f282:=Tryz.func245.trans (congrArg some (by kernel_rfl))
 f283:=Tryz.func256.trans (congrArg some (by kernel_rfl))
 f284:=Tryz.func257.trans (congrArg some (by kernel_rfl))
 f285:=Tryz.func258.trans (congrArg some (by kernel_rfl))
 f286:=Tryz.func259.trans (congrArg some (by kernel_rfl))
 f287:=Tryz.func248.trans (congrArg some (by kernel_rfl))
 f316:=Tryz.func249.trans (congrArg some (by kernel_rfl))
 f317:=Tryz.func260.trans (congrArg some (by kernel_rfl))
 f318:=Tryz.func261.trans (congrArg some (by kernel_rfl))
 f319:=Tryz.func262.trans (congrArg some (by kernel_rfl))
 f320:=Tryz.func263.trans (congrArg some (by kernel_rfl))
 f321:=Tryz.func252.trans (congrArg some (by kernel_rfl))
 f322:=Tryz.func253.trans (congrArg some (by kernel_rfl))
 f337:=Tryz.func264.trans (congrArg some (by kernel_rfl))
 f338:=Tryz.func265.trans (congrArg some (by kernel_rfl))
 t0:=Tryz.underlying0
 a0:=Tryz.isAgg0
 z0:=Tryz.sizeOf0
 v0:=Tryz.zeroValue0
 t2:=Tryz.underlying2
 a2:=Tryz.isAgg2
 z2:=Tryz.sizeOf2
 v2:=Tryz.zeroValue2
 t3:=Tryz.underlying3
 a3:=Tryz.isAgg3
 z3:=Tryz.sizeOf3
 v3:=Tryz.zeroValue3
 t4:=Tryz.underlying4
 a4:=Tryz.isAgg4
 z4:=Tryz.sizeOf4
 v4:=Tryz.zeroValue4
 t5:=Tryz.underlying5
 a5:=Tryz.isAgg5
 z5:=Tryz.sizeOf5
 v5:=Tryz.zeroValue5
 t9:=Tryz.underlying9
 a9:=Tryz.isAgg9
 z9:=Tryz.sizeOf9
 v9:=Tryz.zeroValue9
 t20:=Tryz.underlying20
 a20:=Tryz.isAgg20
 z20:=Tryz.sizeOf20
 v20:=Tryz.zeroValue20
 t21:=Tryz.underlying21
 a21:=Tryz.isAgg21
 z21:=Tryz.sizeOf21
 v21:=Tryz.zeroValue21
 t37:=Tryz.underlying257
 a37:=Tryz.isAgg257
 z37:=Tryz.sizeOf257
 v37:=Tryz.zeroValue257
 t46:=Tryz.underlying194
 a46:=Tryz.isAgg194
 z46:=Tryz.sizeOf194
 v46:=Tryz.zeroValue194
 t51:=Tryz.underlying237
 a51:=Tryz.isAgg237
 z51:=Tryz.sizeOf237
 v51:=Tryz.zeroValue237
 t53:=Tryz.underlying239
 a53:=Tryz.isAgg239
 z53:=Tryz.sizeOf239
 v53:=Tryz.zeroValue239
 t75:=Tryz.underlying261
 a75:=Tryz.isAgg261
 z75:=Tryz.sizeOf261
 v75:=Tryz.zeroValue261
 t76:=Tryz.underlying262
 a76:=Tryz.isAgg262
 z76:=Tryz.sizeOf262
 v76:=Tryz.zeroValue262
 t85:=Tryz.underlying292
 a85:=Tryz.isAgg292
 z85:=Tryz.sizeOf292
 v85:=Tryz.zeroValue292
 t127:=Tryz.underlying307
 a127:=Tryz.isAgg307
 z127:=Tryz.sizeOf307
 v127:=Tryz.zeroValue307
 t143:=Tryz.underlying308
 a143:=Tryz.isAgg308
 z143:=Tryz.sizeOf308
 v143:=Tryz.zeroValue308
 t145:=Tryz.underlying310
 a145:=Tryz.isAgg310
 z145:=Tryz.sizeOf310
 v145:=Tryz.zeroValue310
 t167:=Tryz.underlying291
 a167:=Tryz.isAgg291
 z167:=Tryz.sizeOf291
 v167:=Tryz.zeroValue291
 t168:=Tryz.underlying294
 a168:=Tryz.isAgg294
 z168:=Tryz.sizeOf294
 v168:=Tryz.zeroValue294
 t171:=Tryz.underlying312
 a171:=Tryz.isAgg312
 z171:=Tryz.sizeOf312
 v171:=Tryz.zeroValue312
 t173:=Tryz.underlying314
 a173:=Tryz.isAgg314
 z173:=Tryz.sizeOf314
 v173:=Tryz.zeroValue314
 t175:=Tryz.underlying299
 a175:=Tryz.isAgg299
 z175:=Tryz.sizeOf299
 v175:=Tryz.zeroValue299
 t210:=Tryz.underlying303
 a210:=Tryz.isAgg303
 z210:=Tryz.sizeOf303
 v210:=Tryz.zeroValue303
 t212:=Tryz.underlying317
 a212:=Tryz.isAgg317
 z212:=Tryz.sizeOf317
 v212:=Tryz.zeroValue317
 t213:=Tryz.underlying318
 a213:=Tryz.isAgg318
 z213:=Tryz.sizeOf318
 t232:=Tryz.underlying319
 a232:=Tryz.isAgg319
 z232:=Tryz.sizeOf319
 v232:=Tryz.zeroValue319
 t233:=Tryz.underlying320
 a233:=Tryz.isAgg320
 z233:=Tryz.sizeOf320
 v233:=Tryz.zeroValue320
 g15:=by kernel_rfl
 g16:=by kernel_rfl
 g17:=by kernel_rfl
 g18:=by kernel_rfl
 g19:=by kernel_rfl }
open Go.RowKit in
theorem Tryz.strconv_Atoi(s:ByteArray)(n:Int)(hl:s.size<=18)(h:Lib.atoi s.data.toList=some n)(w:World):
  Calls Tryz.prog 197 #[.string s] w fun e w'=>e=.returned (.tuple #[.int .i64 n,.nilIface])/\∃t,w'=Lib.bytesWorld w 5 t:=Any.strconv_Atoi Tryz.lays172 s n hl h w
def Tryz.lays189_ren:Go.Shelf.Ren:=⟨fun|189=>59|125=>115|257=>114|128=>161|129=>162|294=>152|295=>153|296=>154|297=>155|298=>156|299=>157|216=>158|300=>159|301=>160|328=>208|329=>209|330=>210|331=>211|332=>212|215=>213|343=>233|n=>n,fun|28=>51|3=>3|46=>194|0=>0|51=>237|53=>239|4=>4|183=>230|182=>229|131=>124|5=>5|9=>9|218=>269|222=>273|228=>284|229=>144|n=>n,fun|n=>n⟩
theorem Tryz.lays189:Go.Proofs.Lays.n189 Tryz.prog Tryz.lays189_ren:={
 mixed:=by kernel_rfl
 f125:=Tryz.func115.trans (congrArg some (by kernel_rfl))
 f128:=Tryz.func161.trans (congrArg some (by kernel_rfl))
 f129:=Tryz.func162.trans (congrArg some (by kernel_rfl))
 f189:=Tryz.func59.trans (congrArg some (by kernel_rfl))
 f215:=Tryz.func213.trans (congrArg some (by kernel_rfl))
 f216:=Tryz.func158.trans (congrArg some (by kernel_rfl))
 f257:=Tryz.func114.trans (congrArg some (by kernel_rfl))
 f294:=Tryz.func152.trans (congrArg some (by kernel_rfl))
 f295:=Tryz.func153.trans (congrArg some (by kernel_rfl))
 f296:=Tryz.func154.trans (congrArg some (by kernel_rfl))
 f297:=Tryz.func155.trans (congrArg some (by kernel_rfl))
 f298:=Tryz.func156.trans (congrArg some (by kernel_rfl))
 f299:=Tryz.func157.trans (congrArg some (by kernel_rfl))
 f300:=Tryz.func159.trans (congrArg some (by kernel_rfl))
 f301:=Tryz.func160.trans (congrArg some (by kernel_rfl))
 f328:=Tryz.func208.trans (congrArg some (by kernel_rfl))
 f329:=Tryz.func209.trans (congrArg some (by kernel_rfl))
 f330:=Tryz.func210.trans (congrArg some (by kernel_rfl))
 f331:=Tryz.func211.trans (congrArg some (by kernel_rfl))
 f332:=Tryz.func212.trans (congrArg some (by kernel_rfl))
 f343:=Tryz.func233.trans (congrArg some (by kernel_rfl))
 t0:=Tryz.underlying0
 a0:=Tryz.isAgg0
 z0:=Tryz.sizeOf0
 v0:=Tryz.zeroValue0
 t3:=Tryz.underlying3
 a3:=Tryz.isAgg3
 z3:=Tryz.sizeOf3
 v3:=Tryz.zeroValue3
 t4:=Tryz.underlying4
 a4:=Tryz.isAgg4
 z4:=Tryz.sizeOf4
 v4:=Tryz.zeroValue4
 t5:=Tryz.underlying5
 a5:=Tryz.isAgg5
 z5:=Tryz.sizeOf5
 v5:=Tryz.zeroValue5
 t9:=Tryz.underlying9
 a9:=Tryz.isAgg9
 z9:=Tryz.sizeOf9
 v9:=Tryz.zeroValue9
 t28:=Tryz.underlying51
 a28:=Tryz.isAgg51
 z28:=Tryz.sizeOf51
 v28:=Tryz.zeroValue51
 t46:=Tryz.underlying194
 a46:=Tryz.isAgg194
 z46:=Tryz.sizeOf194
 v46:=Tryz.zeroValue194
 t51:=Tryz.underlying237
 a51:=Tryz.isAgg237
 z51:=Tryz.sizeOf237
 v51:=Tryz.zeroValue237
 t53:=Tryz.underlying239
 a53:=Tryz.isAgg239
 z53:=Tryz.sizeOf239
 v53:=Tryz.zeroValue239
 t131:=Tryz.underlying124
 a131:=Tryz.isAgg124
 z131:=Tryz.sizeOf124
 v131:=Tryz.zeroValue124
 t182:=Tryz.underlying229
 a182:=Tryz.isAgg229
 z182:=Tryz.sizeOf229
 v182:=Tryz.zeroValue229
 t183:=Tryz.underlying230
 a183:=Tryz.isAgg230
 z183:=Tryz.sizeOf230
 v183:=Tryz.zeroValue230
 t218:=Tryz.underlying269
 a218:=Tryz.isAgg269
 z218:=Tryz.sizeOf269
 v218:=Tryz.zeroValue269
 t222:=Tryz.underlying273
 a222:=Tryz.isAgg273
 z222:=Tryz.sizeOf273
 v222:=Tryz.zeroValue273
 t228:=Tryz.underlying284
 a228:=Tryz.isAgg284
 z228:=Tryz.sizeOf284
 v228:=Tryz.zeroValue284
 t229:=Tryz.underlying144
 a229:=Tryz.isAgg144
 z229:=Tryz.sizeOf144
 v229:=Tryz.zeroValue144 }
open Go.Sort Go.RowKit in
theorem Tryz.slices_Sort_int(blk off cap:Nat)(zs:List Int)(w:World)(hH:Holds (Value.int .i64) w blk off zs.toArray)(hblk:blk<w.heap.size)(hsz:zs.length<4611686018427387904):
  Calls Tryz.prog 59 #[.slice (some ⟨blk,off,none⟩) zs.length cap] w fun e w'=>
   e=.returned (.tuple #[])/\∃n os,w'=grow (putRow (Value.int .i64) (Sort.ahead w n) blk off (zs.mergeSort fun x y=>decide (x<=y)).toArray) os:=Any.slices_Sort_int Tryz.lays189 blk off cap zs w hH hblk hsz
def Tryz.lays190_ren:Go.Shelf.Ren:=⟨fun|190=>109|125=>115|258=>146|128=>161|129=>162|302=>198|303=>199|304=>200|305=>201|306=>202|307=>203|308=>204|309=>205|310=>206|333=>228|329=>209|330=>210|334=>229|335=>230|336=>231|344=>246|n=>n,fun|31=>22|9=>9|3=>3|46=>194|0=>0|51=>237|53=>239|4=>4|183=>230|182=>229|131=>124|5=>5|218=>269|222=>273|228=>284|229=>144|n=>n,fun|n=>n⟩
theorem Tryz.lays190:Go.Proofs.Lays.n190 Tryz.prog Tryz.lays190_ren:={
 mixed:=by kernel_rfl
 f125:=Tryz.func115.trans (congrArg some (by kernel_rfl))
 f128:=Tryz.func161.trans (congrArg some (by kernel_rfl))
 f129:=Tryz.func162.trans (congrArg some (by kernel_rfl))
 f190:=Tryz.func109.trans (congrArg some (by kernel_rfl))
 f258:=Tryz.func146.trans (congrArg some (by kernel_rfl))
 f302:=Tryz.func198.trans (congrArg some (by kernel_rfl))
 f303:=Tryz.func199.trans (congrArg some (by kernel_rfl))
 f304:=Tryz.func200.trans (congrArg some (by kernel_rfl))
 f305:=Tryz.func201.trans (congrArg some (by kernel_rfl))
 f306:=Tryz.func202.trans (congrArg some (by kernel_rfl))
 f307:=Tryz.func203.trans (congrArg some (by kernel_rfl))
 f308:=Tryz.func204.trans (congrArg some (by kernel_rfl))
 f309:=Tryz.func205.trans (congrArg some (by kernel_rfl))
 f310:=Tryz.func206.trans (congrArg some (by kernel_rfl))
 f329:=Tryz.func209.trans (congrArg some (by kernel_rfl))
 f330:=Tryz.func210.trans (congrArg some (by kernel_rfl))
 f333:=Tryz.func228.trans (congrArg some (by kernel_rfl))
 f334:=Tryz.func229.trans (congrArg some (by kernel_rfl))
 f335:=Tryz.func230.trans (congrArg some (by kernel_rfl))
 f336:=Tryz.func231.trans (congrArg some (by kernel_rfl))
 f344:=Tryz.func246.trans (congrArg some (by kernel_rfl))
 t0:=Tryz.underlying0
 a0:=Tryz.isAgg0
 z0:=Tryz.sizeOf0
 v0:=Tryz.zeroValue0
 t3:=Tryz.underlying3
 a3:=Tryz.isAgg3
 z3:=Tryz.sizeOf3
 v3:=Tryz.zeroValue3
 t4:=Tryz.underlying4
 a4:=Tryz.isAgg4
 z4:=Tryz.sizeOf4
 v4:=Tryz.zeroValue4
 t5:=Tryz.underlying5
 a5:=Tryz.isAgg5
 z5:=Tryz.sizeOf5
 v5:=Tryz.zeroValue5
 t9:=Tryz.underlying9
 a9:=Tryz.isAgg9
 z9:=Tryz.sizeOf9
 v9:=Tryz.zeroValue9
 t31:=Tryz.underlying22
 a31:=Tryz.isAgg22
 z31:=Tryz.sizeOf22
 v31:=Tryz.zeroValue22
 t46:=Tryz.underlying194
 a46:=Tryz.isAgg194
 z46:=Tryz.sizeOf194
 v46:=Tryz.zeroValue194
 t51:=Tryz.underlying237
 a51:=Tryz.isAgg237
 z51:=Tryz.sizeOf237
 v51:=Tryz.zeroValue237
 t53:=Tryz.underlying239
 a53:=Tryz.isAgg239
 z53:=Tryz.sizeOf239
 v53:=Tryz.zeroValue239
 t131:=Tryz.underlying124
 a131:=Tryz.isAgg124
 z131:=Tryz.sizeOf124
 v131:=Tryz.zeroValue124
 t182:=Tryz.underlying229
 a182:=Tryz.isAgg229
 z182:=Tryz.sizeOf229
 v182:=Tryz.zeroValue229
 t183:=Tryz.underlying230
 a183:=Tryz.isAgg230
 z183:=Tryz.sizeOf230
 v183:=Tryz.zeroValue230
 t218:=Tryz.underlying269
 a218:=Tryz.isAgg269
 z218:=Tryz.sizeOf269
 v218:=Tryz.zeroValue269
 t222:=Tryz.underlying273
 a222:=Tryz.isAgg273
 z222:=Tryz.sizeOf273
 v222:=Tryz.zeroValue273
 t228:=Tryz.underlying284
 a228:=Tryz.isAgg284
 z228:=Tryz.sizeOf284
 v228:=Tryz.zeroValue284
 t229:=Tryz.underlying144
 a229:=Tryz.isAgg144
 z229:=Tryz.sizeOf144
 v229:=Tryz.zeroValue144 }
open Go.Sort Go.RowKit in
theorem Tryz.slices_Sort_string(blk off cap:Nat)(ss:List (List UInt8))(w:World)(hH:Holds encStr w blk off ss.toArray)(hblk:blk<w.heap.size)(hsz:ss.length<4611686018427387904):
  Calls Tryz.prog 109 #[.slice (some ⟨blk,off,none⟩) ss.length cap] w fun e w'=>
   e=.returned (.tuple #[])/\∃n os,w'=grow (putRow encStr (Sort.ahead w n) blk off (ss.mergeSort fun x y=>decide (x<=y)).toArray) os:=Any.slices_Sort_string Tryz.lays190 blk off cap ss w hH hblk hsz
def Tryz.laysNm220_ren:Go.Shelf.Ren:=⟨fun|20=>186|n=>n,fun|22=>51|3=>3|4=>4|0=>0|n=>n,fun|n=>n⟩
theorem Tryz.laysNm220:Go.Proofs.Lays2.n20 Tryz.prog Tryz.laysNm220_ren:={
 mixed:=by kernel_rfl
 f20:=Tryz.func186.trans (congrArg some (by kernel_rfl))
 t0:=Tryz.underlying0
 a0:=Tryz.isAgg0
 z0:=Tryz.sizeOf0
 v0:=Tryz.zeroValue0
 t3:=Tryz.underlying3
 a3:=Tryz.isAgg3
 z3:=Tryz.sizeOf3
 v3:=Tryz.zeroValue3
 t4:=Tryz.underlying4
 a4:=Tryz.isAgg4
 z4:=Tryz.sizeOf4
 v4:=Tryz.zeroValue4
 t22:=Tryz.underlying51
 a22:=Tryz.isAgg51
 z22:=Tryz.sizeOf51
 v22:=Tryz.zeroValue51
 i3:=by kernel_rfl }
open Go.RowKit Go.Lib Go.Sort in
theorem Tryz.slices_Compact_int(blk off cap:Nat)(zs:List Int)(w:World)(hH:Holds (Value.int .i64) w blk off zs.toArray)(hsz:zs.length<=9223372036854775807)(hcap:zs.length<=cap):
  Calls Tryz.prog 186 #[.slice (some ⟨blk,off,none⟩) zs.length cap] w fun e w'=>e=.returned (.slice (some ⟨blk,off,none⟩) (Lib.compact zs).length cap)/\∃q,w'=putRow (Value.int .i64) (Sort.ahead w q) blk off (Lib.compact zs++List.replicate (zs.length - (Lib.compact zs).length) 0).toArray:=Any.slices_Compact_int Tryz.laysNm220 blk off cap zs w hH hsz hcap
open Go.RowKit Go.Lib Go.Sort in
theorem Tryz.slices_Compact_int_empty(a:Option Addr)(cap:Nat)(w:World):
  Calls Tryz.prog 186 #[.slice a 0 cap] w fun e w'=>e=.returned (.slice a 0 cap)/\w'=w:=Any.slices_Compact_int_empty Tryz.laysNm220 a cap w
def Tryz.lays194_ren:Go.Shelf.Ren:=⟨fun|194=>188|n=>n,fun|31=>22|9=>9|3=>3|4=>4|0=>0|n=>n,fun|n=>n⟩
theorem Tryz.lays194:Go.Proofs.Lays.n194 Tryz.prog Tryz.lays194_ren:={
 mixed:=by kernel_rfl
 f194:=Tryz.func188.trans (congrArg some (by kernel_rfl))
 t0:=Tryz.underlying0
 a0:=Tryz.isAgg0
 z0:=Tryz.sizeOf0
 v0:=Tryz.zeroValue0
 t3:=Tryz.underlying3
 a3:=Tryz.isAgg3
 z3:=Tryz.sizeOf3
 v3:=Tryz.zeroValue3
 t4:=Tryz.underlying4
 a4:=Tryz.isAgg4
 z4:=Tryz.sizeOf4
 v4:=Tryz.zeroValue4
 t9:=Tryz.underlying9
 a9:=Tryz.isAgg9
 z9:=Tryz.sizeOf9
 v9:=Tryz.zeroValue9
 t31:=Tryz.underlying22
 a31:=Tryz.isAgg22
 z31:=Tryz.sizeOf22
 v31:=Tryz.zeroValue22 }
open Go.RowKit Go.Lib Go.Sort in
theorem Tryz.slices_Compact_string(blk off cap:Nat)(zs:List (List UInt8))(w:World)(hH:Holds encStr w blk off zs.toArray)(hsz:zs.length<=9223372036854775807)(hcap:zs.length<=cap):
  Calls Tryz.prog 188 #[.slice (some ⟨blk,off,none⟩) zs.length cap] w fun e w'=>e=.returned (.slice (some ⟨blk,off,none⟩) (Lib.compact zs).length cap)/\∃q,w'=putRow encStr (Sort.ahead w q) blk off (Lib.compact zs++List.replicate (zs.length - (Lib.compact zs).length) []).toArray:=Any.slices_Compact_string Tryz.lays194 blk off cap zs w hH hsz hcap
open Go.RowKit Go.Lib Go.Sort in
theorem Tryz.slices_Compact_string_empty(a:Option Addr)(cap:Nat)(w:World):
  Calls Tryz.prog 188 #[.slice a 0 cap] w fun e w'=>e=.returned (.slice a 0 cap)/\w'=w:=Any.slices_Compact_string_empty Tryz.lays194 a cap w
open Go.RowKit Go.Sort in
theorem Tryz.slices_Sort_string_none(p:Option Addr)(cap:Nat)(w:World):
  Calls Tryz.prog 109 #[.slice p 0 cap] w fun e w'=>e=.returned (.tuple #[])/\w'=w:=Any.slices_Sort_string_none Tryz.lays190 p cap w
open Go.RowKit Go.Sort in
theorem Tryz.slices_Sort_int_none(p:Option Addr)(cap:Nat)(w:World):
  Calls Tryz.prog 59 #[.slice p 0 cap] w fun e w'=>e=.returned (.tuple #[])/\w'=w:=Any.slices_Sort_int_none Tryz.lays189 p cap w
end Go.Proofs
namespace Go.Proofs.YtelmfadihfcgnaaGreatDoor
open Go Go.Pv
def Dl:List V->Option V
 |[.con (.string s)]=>(match Lib.atoi s.data.toList with
  |some n=>(match Nat.ble s.size 18 with|true=>some (.tup [.con (.int .i64 n),.con .nilIface])|false=>none)
  |none=>none)
 |_=>none
theorem Dk{gl:Gl}{avs:List V}{v:V}(h:Dl avs=some v):dX gl Tryz.prog 197 avs v:=by
 unfold Dl at h;split at h
 ·rename_i s;split at h
  ·rename_i n hn;split at h
   ·rename_i hl;simp only[av8] at h;subst h;refine zD (l:=[.string s]) (v:=.tuple #[.int .i64 n,.nilIface]) (fun w=>(Go.Proofs.Tryz.strconv_Atoi s n (aw9 hl) hn w).mono ?_) (fun m=>.tup Y fun i c v a b=>?_)
    ·rintro e w' ⟨rfl,t,rfl⟩
     exact⟨Y,Go.Joins.below_bytesWorld _ w 5 t (ae9 _),trivial⟩
    ·match i with
     |0=>simp at a b;subst a b;exact .con _
     |1=>simp at a b;subst a b;exact .con _
     |i+2=>simp at a
   ·simp at h
  ·simp at h
 ·simp at h
def Lb:XT:=[(197,Dl)]
theorem H5{gl:Gl}:Ls gl Tryz.prog Lb:=by
 intro p hp;simp only[Lb,aq8,List.not_mem_nil,or_false] at hp;subst hp;exact⟨by kernel_rfl,fun avs v h=>Dk h⟩
theorem KU:Tryz.prog.follows .mixedOrders=true:=by kernel_rfl
theorem DH:OM M7 Lb M6 Lc 6000 11 []=some (.con (.bool true)):=by kernel_rfl
theorem Cb{gl:Gl}:dX gl Tryz.prog 11 [] (bV true):=Le H8 H5 H6 H7 KU DH
end Go.Proofs.YtelmfadihfcgnaaGreatDoor
/-
 DERIVED: THE SHELF's CONTRACTS AT THIS DUMP, IN PLAIN WORDS (tools/lay-plain.mjs out of 'TryzShelf.lean', which tools/lay-shelf.mjs wrote): THE SAME DECLARATIONS UNDER THE SAME NAMES: 'import', 'namespace', 'open', 'def', 'theorem' AND NOTHING ELSE: no command of the shelf's: FOR A HAND-IN. Each laying: the table of numbers ('.._ren') and one theorem, a field a fact of the dump's own or the kernel's comparison; each contract: ONE APPLICATION.
-/
namespace Go.Proofs
open Go.Shelf
def Tryz.lz47_ren:Go.Shelf.Ren:=⟨fun|6=>47|8=>108|9=>109|11=>145|13=>115|12=>146|23=>161|24=>162|14=>198|15=>199|16=>200|17=>201|18=>202|19=>203|20=>204|21=>205|22=>206|25=>228|26=>209|27=>210|28=>229|29=>230|30=>231|31=>246|n=>n,fun|26=>9|28=>101|24=>22|0=>0|3=>3|37=>194|48=>237|50=>239|4=>4|40=>230|39=>229|45=>124|5=>5|9=>9|51=>269|55=>273|57=>284|58=>144|33=>37|n=>n,fun|n=>n⟩
theorem Tryz.lz47:Go.Proofs.SlLaysZ.n6 Tryz.prog Tryz.lz47_ren:={
 mixed:=by kernel_rfl
 f6:=⟨Tryz.f47.name,by decide,Tryz.func47.trans (congrArg some (by kernel_rfl))⟩
 f8:=⟨Tryz.f108.name,by decide,Tryz.func108.trans (congrArg some (by kernel_rfl))⟩
 f11:=⟨Tryz.f145.name,by decide,Tryz.func145.trans (congrArg some (by kernel_rfl))⟩
 t0:=Tryz.underlying0
 a0:=Tryz.isAgg0
 z0:=Tryz.sizeOf0
 v0:=Tryz.zeroValue0
 t24:=Tryz.underlying22
 a24:=Tryz.isAgg22
 z24:=Tryz.sizeOf22
 v24:=Tryz.zeroValue22
 t26:=Tryz.underlying9
 a26:=Tryz.isAgg9
 z26:=Tryz.sizeOf9
 v26:=Tryz.zeroValue9
 t28:=Tryz.underlying101
 a28:=Tryz.isAgg101
 z28:=Tryz.sizeOf101
 v28:=Tryz.zeroValue101
 i26:=by kernel_rfl }
def Tryz.lz48_ren:Go.Shelf.Ren:=⟨fun|7=>48|10=>110|n=>n,fun|23=>77|26=>9|3=>103|28=>101|0=>0|27=>100|33=>37|4=>4|n=>n,fun|n=>n⟩
theorem Tryz.lz48:Go.Proofs.SlLaysZ.n7 Tryz.prog Tryz.lz48_ren:={
 mixed:=by kernel_rfl
 f7:=⟨Tryz.f48.name,by decide,Tryz.func48.trans (congrArg some (by kernel_rfl))⟩
 f10:=⟨Tryz.f110.name,by decide,Tryz.func110.trans (congrArg some (by kernel_rfl))⟩
 t0:=Tryz.underlying0
 a0:=Tryz.isAgg0
 z0:=Tryz.sizeOf0
 v0:=Tryz.zeroValue0
 t4:=Tryz.underlying4
 a4:=Tryz.isAgg4
 z4:=Tryz.sizeOf4
 v4:=Tryz.zeroValue4
 t23:=Tryz.underlying77
 a23:=Tryz.isAgg77
 z23:=Tryz.sizeOf77
 v23:=Tryz.zeroValue77
 t26:=Tryz.underlying9
 a26:=Tryz.isAgg9
 z26:=Tryz.sizeOf9
 v26:=Tryz.zeroValue9
 t27:=Tryz.underlying100
 a27:=Tryz.isAgg100
 z27:=Tryz.sizeOf100
 v27:=Tryz.zeroValue100
 t28:=Tryz.underlying101
 a28:=Tryz.isAgg101
 z28:=Tryz.sizeOf101
 v28:=Tryz.zeroValue101
 t33:=Tryz.underlying37
 a33:=Tryz.isAgg37
 z33:=Tryz.sizeOf37
 v33:=Tryz.zeroValue37 }
def Tryz.lz110_ren:Go.Shelf.Ren:=⟨fun|10=>110|n=>n,fun|33=>37|23=>77|0=>0|4=>4|26=>9|3=>103|n=>n,fun|n=>n⟩
theorem Tryz.lz110:Go.Proofs.SlLaysZ.n10 Tryz.prog Tryz.lz110_ren:={
 mixed:=by kernel_rfl
 f10:=⟨Tryz.f110.name,by decide,Tryz.func110.trans (congrArg some (by kernel_rfl))⟩
 t0:=Tryz.underlying0
 a0:=Tryz.isAgg0
 z0:=Tryz.sizeOf0
 v0:=Tryz.zeroValue0
 t4:=Tryz.underlying4
 a4:=Tryz.isAgg4
 z4:=Tryz.sizeOf4
 v4:=Tryz.zeroValue4
 t23:=Tryz.underlying77
 a23:=Tryz.isAgg77
 z23:=Tryz.sizeOf77
 v23:=Tryz.zeroValue77
 t26:=Tryz.underlying9
 a26:=Tryz.isAgg9
 z26:=Tryz.sizeOf9
 v26:=Tryz.zeroValue9
 t33:=Tryz.underlying37
 a33:=Tryz.isAgg37
 z33:=Tryz.sizeOf37
 v33:=Tryz.zeroValue37 }
end Go.Proofs
namespace Go.Proofs.YtelmfadihfcgnaaGreatDoor
open Go Go.Pv
set_option maxRecDepth 100000
theorem vm:(Tryz.prog.info? 103).bind (·.zero)=some (.pointer none):=by kernel_rfl
theorem D6:DB Tryz.prog 103=true:=by kernel_rfl
theorem oA(p:B8×(Option ae)):aX p=((fun k=>str k) p.1,qo 161 bB p.2):=rfl
theorem ag.holePR{n:Nat}{σ:Nat->Nat}{a1:B8}{xs:List (B8×(Option ae))}{i j:Nat}(h1:Nat.blt j n=true)(h2:σ j=i):
  ag (Ren n σ) (.map (holeP aX (.ptr j 7 0 0) a1 xs)) (.map (holeP aX (.ptr i 7 0 0) a1 xs)):=
 ag.holeP aX a1 (iZ.sub (ak.ptr h1 h2) rfl) (fun p=>iZ.same jx.h (ak.kp (uJ _ _))) xs
theorem ws{K:cS}{S:St}(id nid a b c:Nat){xs:List (B8×(Option ae))}{k0:B8}(l1 l2:List B8)(l3:List Int)(t1 t2 t3:Bool)(w:Int)(hs:(aH xs k0).isSome=true)
  (ho:ao S.hp id=.map (holeP aX (.ptr nid 7 0 0) k0 xs)) (h1:ao S.hp nid=.arr 161 7 [[.own a l1.length,.own b l2.length,.own c l3.length,bV t1,bV t2,bV t3,iV w]])
  (ha:ao S.hp a=.arr 9 1 (l1.map ap)) (hb:ao S.hp b=.arr 9 1 (l2.map ap)) (hc:ao S.hp c=.arr 3 1 (l3.map au))
  (hd:([id,nid,a,b,c]:List Nat).Nodup):aV K S ⟨S.env,(id,.map ((bI xs k0 (some ⟨l1,l2,l3,t1,t2,t3,w⟩)).map aX))::(a,.dead)::(b,.dead)::(c,.dead)::(nid,.dead)::S.hp,S.nx⟩:=by
 simp only[aa9,aq8,List.not_mem_nil,or_false,not_or,not_false_eq_true,List.nodup_nil,and_true] at hd;obtain⟨⟨d1,d2,d3,d4⟩,⟨d5,d6,d7⟩,⟨d8,d9⟩,d10⟩:=hd
 have bf:∀{i j:Nat},i≠j->Nat.beq i j=false:=fun h=>by
  grind [Nat.eq_of_beq_eq_true]
 refine aV.trans (ki nid 0 0 a h1 rfl rfl ha (bf8 _).symm (bf d5) (fun r hr=>by obtain⟨z,_,rfl⟩:=bc9.1 hr;exact(aL z).keep)) ?_;refine aV.trans (ki nid 0 1 b (n:=l2.length) (by rw[mE]) rfl rfl (by rw[av,if_neg d6,av,if_neg d8];exact hb) (bf8 _).symm (bf d6) (fun r hr=>by obtain⟨z,_,rfl⟩:=bc9.1 hr;exact(aL z).keep)) ?_;refine aV.trans (ki nid 0 2 c (n:=l3.length) (by rw[mE]) rfl rfl (by rw[av,if_neg d7,av,if_neg d10,av,if_neg d7,av,if_neg d9];exact hc) (bf8 _).symm (bf d7) (fun r hr=>by obtain⟨z,_,rfl⟩:=bc9.1 hr;exact(bk z).keep)) ?_
 refine aV.trans (Ad id nid (y:=(⟨l1,l2,l3,t1,t2,t3,w⟩:ae)) aX (fun k=>str k) bB 161 7 oA hs (by
  simp_all[av,Ne.symm]) (by rw[mE];rfl) (bf d1) (EK.h _)) ?_
 refine CK _ fun q=>?_;simp only[av]
 grind
theorem oV{F:Nat}{a1:B8}{a2:List (B8×(Option ae))}{r}(h:GI F a1 a2=some r):(aH r.1 a1).isSome=true:=by
 grind [GI,cL]
theorem KK(F:Nat)(a1:B8)(a2:List (B8×(Option ae)))(r:(List (B8×(Option ae))×ae))(h:GI F a1 a2=some r):tA Tryz.prog 89 [(sV a1),(V.ptr 0 1 0 0)] 2 [(0,(Ob.arr 77 1 [[(V.map 1)]])),(1,(Ob.map (a2.map aX)))] (eK [(V.ptr 2 7 0 0)]) 6 [(0,(Ob.arr 77 1 [[(V.map 1)]])),(1,(Ob.map (holeP aX (V.ptr 2 7 0 0) a1 r.1))),(2,(Ob.arr 161 7 [[(V.own 3 r.2.is.length),(V.own 4 r.2.begins.length),(V.own 5 r.2.numbers.length),(bV r.2.asText),(bV r.2.asNo),(bV r.2.has),(iV r.2.weight)]])),(3,(Ob.arr 9 1 (r.2.is.map ap))),(4,(Ob.arr 9 1 (r.2.begins.map ap))),(5,(Ob.arr 3 1 (r.2.numbers.map au)))]:=by
 unfold GI at h;have key:∀(xs:List (B8×(Option ae))) (s:ae),(aH xs a1).isSome=true->iS (str a1) (holeP aX (V.ptr 2 7 0 0) a1 xs) (some (V.ptr 2 7 0 0)):=fun xs s hs=>sc aX (fun k=>str k) bB 161 a1 (V.ptr 2 7 0 0) oA (fun a b h=>ei a b h) xs hs;have good:∀xs:List (B8×(Option ae)),∀p,p∈holeP aX (V.ptr 2 7 0 0) a1 xs->m8 p.1:=fun xs=>sd aX a1 _ (fun _=>⟨_,rfl⟩) xs;cases hm:aH a2 a1 with
 |none=>
  rw[hm] at h;replace h:=ah9 h;subst h;refine dm Tryz.func89 Y Y (l:=[.tmp 3]) Y Y [(0,(sV a1)),(1,(V.ptr 0 1 0 0))] Y (fun w0 m0 β0 hg=>en ?_);refine rn 9 Y ?_;refine cq none (V.con (.pointer none)) (V.con (.pointer none)) lj dA vm (iA _) af Y (.own Y) (.con Y) ⟨_,Y⟩ lL (rX aX (fun k=>str k) bB 161 a1 oA (fun a b h=>ei a b h) a2 hm) Y Y ?_;refine yI D6 af Y Y Y ?_;refine fo (rn 7 Y ?_);refine bz (iF 2 9 1 (.arr 161 7 [[V.own 3 0,nV,nV,bV false,bV false,bV false,iV 2]]) (ag.box (.cons ak.mkNil (.cons ak.keepNil (.cons ak.keepNil (.cons ak.keepNil (.cons ak.keepNil (.cons ak.keepNil (.cons ak.keepNil .nil))))))))) ?_;refine bz (iF 2 9 1 (.arr 161 7 [[V.own 3 0,V.own 4 0,nV,bV false,bV false,bV false,iV 2]]) (ag.box (.cons ak.keepNil (.cons ak.mkNil (.cons ak.keepNil (.cons ak.keepNil (.cons ak.keepNil (.cons ak.keepNil (.cons ak.keepNil .nil))))))))) ?_;refine bz (iF 2 3 1 (.arr 161 7 [[V.own 3 0,V.own 4 0,V.own 5 0,bV false,bV false,bV false,iV 2]]) (ag.box (.cons ak.keepNil (.cons ak.keepNil (.cons ak.mkNil (.cons ak.keepNil (.cons ak.keepNil (.cons ak.keepNil (.cons ak.keepNil .nil))))))))) ?_
  refine cJ (es:=a2.map aX) (holeP aX (V.ptr 2 7 0 0) a1 (bI a2 a1 (some (ae.mk [] [] [] false false false 2)))) lj dA af Y Y (.con Y) ⟨_,Y⟩ lL Y
   (uf aX (fun k=>str k) bB 161 a1 (V.ptr 2 7 0 0) (some (ae.mk [] [] [] false false false 2)) oA (fun a b h=>ei a b h) a2 hm) ?_
  refine fo (rn 5 Y ?_);refine cq (some (V.ptr 2 7 0 0)) (V.con (.pointer none)) (V.ptr 2 7 0 0) lj dA vm (iA _) af Y (.own Y) (.con Y) ⟨_,Y⟩ (good _) (key _ (ae.mk [] [] [] false false false 2) (by simp[cL])) Y Y ?_;refine fo (rn 2 Y ?_);exact wR ⟨.inl Y,[(3,V.ptr 2 7 0 0)],(bc 6 (fun i=>([0,1,2,3,4,5]:List Nat).getD i 0) _ _ (by decide) (bP.get (.cons (ak.ptr Y Y) .nil)) (bR.get (.cons Y (ag.box (.cons (ak.map Y Y) .nil)) (.cons Y (ag.holePR Y Y) (.cons Y (ag.box (.cons (ak.own Y Y) (.cons (ak.own Y Y) (.cons (ak.own Y Y) (.cons (ak.imm (aw.con _)) (.cons (ak.imm (aw.con _)) (.cons (ak.imm (aw.con _)) (.cons (ak.imm (aw.con _)) .nil)))))))) (.cons Y (ag.rows (ar aL)) (.cons Y (ag.rows (ar aL)) (.cons Y (ag.rows (ar bk)) .nil))))))) Y),.cons (.tmp Y) .nil⟩
 |some q=>
  rw[hm] at h;cases q with
  |none=>cases h
  |some s=>
   replace h:=ah9 h;subst h;refine dm Tryz.func89 Y Y (l:=[.tmp 3]) Y Y [(0,(sV a1)),(1,(V.ptr 0 1 0 0))] Y (fun w0 m0 β0 hg=>en ?_);refine rn 9 Y ?_;refine bz (yg 1 2 aX (fun k=>str k) bB 161 7 oA Y hm Y Y) ?_;refine bz (nA 2 0 0 3 (rows:=[bB s]) Y Y Y Y) ?_;refine bz (nA 2 0 1 4 (e:=161) (k:=7) (rows:=[[V.own 3 s.is.length,(V.dsl 9 1 (s.begins.map ap)),(V.dsl 3 1 (s.numbers.map au)),(bV s.asText),(bV s.asNo),(bV s.has),(iV s.weight)]]) (by simp[av,qi,bB]) Y Y Y) ?_;refine bz (nA 2 0 2 5 (e:=161) (k:=7) (rows:=[[V.own 3 s.is.length,V.own 4 s.begins.length,(V.dsl 3 1 (s.numbers.map au)),(bV s.asText),(bV s.asNo),(bV s.has),(iV s.weight)]]) (by simp[av,qi]) Y Y Y) ?_;refine bz (yf 2 (.arr 161 7 [[V.own 3 s.is.length,V.own 4 s.begins.length,V.own 5 s.numbers.length,(bV s.asText),(bV s.asNo),(bV s.has),(iV s.weight)]]) (ob0:=.arr 161 7 [[V.own 3 s.is.length,V.own 4 s.begins.length,V.own 5 s.numbers.length,(bV s.asText),(bV s.asNo),(bV s.has),(iV s.weight)]]) (by simp[av,qi]) (ag.keep (fun _=>ak.keepI) _)) ?_;refine cq (some (V.ptr 2 7 0 0)) (V.con (.pointer none)) (V.ptr 2 7 0 0) lj dA vm (iA _) af Y (.own Y) (.con Y) ⟨_,Y⟩ (good _) (key _ s (by simp[hm])) Y Y ?_;refine yH D6 af Y Y Y ?_;refine fo (rn 7 Y ?_);refine cq (some (V.ptr 2 7 0 0)) (V.con (.pointer none)) (V.ptr 2 7 0 0) lj dA vm (iA _) af Y (.own Y) (.con Y) ⟨_,Y⟩ (good _) (key _ s (by simp[hm])) Y Y ?_;refine fo (rn 2 Y ?_);exact wR ⟨.inl Y,[(3,V.ptr 2 7 0 0)],(bc 6 (fun i=>([0,1,2,3,4,5]:List Nat).getD i 0) _ _ (by decide) (bP.get (.cons (ak.ptr Y Y) .nil)) (bR.get (.cons Y (ag.box (.cons (ak.map Y Y) .nil)) (.cons Y (ag.holePR Y Y) (.cons Y (ag.box (.cons (ak.own Y Y) (.cons (ak.own Y Y) (.cons (ak.own Y Y) (.cons (ak.imm (aw.con _)) (.cons (ak.imm (aw.con _)) (.cons (ak.imm (aw.con _)) (.cons (ak.imm (aw.con _)) .nil)))))))) (.cons Y (ag.rows (ar aL)) (.cons Y (ag.rows (ar aL)) (.cons Y (ag.rows (ar bk)) .nil))))))) Y),.cons (.tmp Y) .nil⟩
end Go.Proofs.YtelmfadihfcgnaaGreatDoor
