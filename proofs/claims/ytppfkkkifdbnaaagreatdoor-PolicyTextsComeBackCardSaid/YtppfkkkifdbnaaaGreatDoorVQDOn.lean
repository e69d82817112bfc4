/- Part of the proof. -/
import Derived.Test.YtppfkkkifdbnaaaGreatDoorVQDT
import Derived.Shelf.Strings.OnBuilder
import Derived.Shelf.Strings.BuilderK
import Derived.Shelf.Strings.Builder2Cap
import Derived.Shelf.Strconv.Atoi
import Derived.Shelf.Strings.Shaped
set_option linter.unusedSimpArgs false
set_option linter.unusedVariables false
namespace Go.Proofs.YtppfkkkifdbnaaaGreatDoor.Qd
open Go Go.Pv
set_option maxRecDepth 100000
noncomputable section
def M38(F:Nat):Option Unit:=
 if ([([92]:List UInt8),([92,92]:List UInt8),([34]:List UInt8),([92,34]:List UInt8)]:List (List UInt8)).length*16<=140737488355328 then some () else none
def M98(F:Nat):Option Unit:=
 if (([]:List (List UInt8))++([([34]:List UInt8)]:List (List UInt8))).length*16<=140737488355328 then if (([([34]:List UInt8)]:List (List UInt8))++([([92]:List UInt8)]:List (List UInt8))).length*16<=140737488355328 then some () else none else none
def M69(F:Nat):Option Unit:=
 (M98 F).bind fun y3=>some ()
def M68(F:Nat):Option Unit:=M69 F
def M198(F:Nat)(a1:(List UInt8))(a2:(List UInt8)):Option Int:=match a2 with|[c]=>some (Lib.countByte a1 c:Int)|_=>none
def M196_L3(F:Nat)(a1:(List UInt8))(k53:(List Int)->Option (List UInt8)):Nat->Int->Int->(List Int)->Option (List UInt8)
  |0,n59,n58,l60=>k53 l60
  |tl3+1,n59,n58,l60=>(idx a1 n59).bind fun c62=>if 0<=(c62.toNat:Int)/\(c62.toNat:Int).toNat<256 then jn (fun(n66:Int) (l67:List Int)=>M196_L3 F a1 k53 tl3 (n59+1) n66 l67) (fun k65=>if (tabO [(34,([92,34]:List Int)),(92,([92,92]:List Int))] (c62.toNat:Int).toNat).isSome=true then if 0<=n58/\n58.toNat<l60.length then if 0<=(c62.toNat:Int)/\(c62.toNat:Int).toNat<256 then ((tabO [(34,([92,34]:List Int)),(92,([92,92]:List Int))] (c62.toNat:Int).toNat)).bind fun l71=>if n58.toNat+l71.length<=l60.length then k65 (w64 (n58+((l71.length:Nat):Int))) (cpL l60 n58.toNat l71) else none else none else none
 else (idx l60 n58).bind fun x74=>k65 (w64 (n58+1)) (l60.set n58.toNat (c62.toNat:Int))) else none
def M196_L1(F:Nat)(a1:(List UInt8))(k6:Int->Bool->Option (List UInt8)):Nat->Int->Int->Bool->Option (List UInt8)
  |0,n14,n12,b13=>k6 n12 b13
  |tl1+1,n14,n12,b13=>(idx ([([34]:List UInt8),([92]:List UInt8)]:List (List UInt8)) n14).bind fun x16=>(M198 F a1 x16).bind fun y18=>jn (fun(n21:Int) (b22:Bool)=>M196_L1 F a1 k6 tl1 (n14+1) n21 b22) (fun k20=>if (y18 != 0)=true then (idx x16 0).bind fun c24=>if 0<=(c24.toNat:Int)/\(c24.toNat:Int).toNat<256 then ((tabO [(34,([92,34]:List Int)),(92,([92,92]:List Int))] (c24.toNat:Int).toNat)).bind fun l27=>k20 (w64 (n12+(w64 (y18*(w64 (((l27.length:Nat):Int) - 1)))))) true else none
 else k20 n12 b13)
def M196_L2(F:Nat)(a1:(List UInt8))(k30:Int->Bool->Option (List UInt8)):Nat->Int->Int->Bool->Option (List UInt8)
  |0,n38,n36,b37=>k30 n36 b37
  |tl2+1,n38,n36,b37=>(idx a1 n38).bind fun c40=>if 0<=(c40.toNat:Int)/\(c40.toNat:Int).toNat<256 then jn (fun(n44:Int) (b45:Bool)=>M196_L2 F a1 k30 tl2 (n38+1) n44 b45) (fun k43=>if (tabO [(34,([92,34]:List Int)),(92,([92,92]:List Int))] (c40.toNat:Int).toNat).isSome=true then if 0<=(c40.toNat:Int)/\(c40.toNat:Int).toNat<256 then ((tabO [(34,([92,34]:List Int)),(92,([92,92]:List Int))] (c40.toNat:Int).toNat)).bind fun l48=>k43 (w64 (n36+(w64 (((l48.length:Nat):Int) - 1)))) true else none
 else k43 n36 b37) else none
def M196(F:Nat)(a1:(List UInt8)):Option (List UInt8):=
 jn (fun(n3:Int) (b4:Bool)=>if (!b4)=true then some a1
 else if 0<=n3/\((1:Nat):Int)*n3<=140737488355328/\n3<=140737488355328 then jn (fun(l54:List Int)=>some (l54.map fun n=>UInt8.ofNat n.toNat)) (fun k53=>if (a1.length:Int)<=9223372036854775807 then M196_L3 F a1 k53 (((a1.length:Int):Int).toNat) 0 0 (List.replicate (n3).toNat (0:Int)) else none) else none) (fun k2=>if (decide (16<=(a1.length:Int)))=true then jn (fun(n7:Int) (b8:Bool)=>k2 n7 b8) (fun k6=>if (2:Int)<=9223372036854775807 then M196_L1 F a1 k6 ((2:Int).toNat) 0 (a1.length:Int) false else none)
 else jn (fun(n31:Int) (b32:Bool)=>k2 n31 b32) (fun k30=>if (a1.length:Int)<=9223372036854775807 then M196_L2 F a1 k30 (((a1.length:Int):Int).toNat) 0 (a1.length:Int) false else none))
def M39(F:Nat)(a1:(List UInt8)):Option (List UInt8):=
 (M68 F).bind fun y7=>(M196 F a1).bind fun y9=>some y9
def M13(F:Nat)(a1:(List UInt8)):Option (List UInt8):=
 (M38 F).bind fun y2=>(M39 F a1).bind fun y4=>if ([34]:List UInt8).length+y4.length<=9223372036854775807 then if (([34]:List UInt8)++y4).length+([34]:List UInt8).length<=9223372036854775807 then some ((([34]:List UInt8)++y4)++([34]:List UInt8)) else none else none
end
end Go.Proofs.YtppfkkkifdbnaaaGreatDoor.Qd
/-
 DERIVED: THE SHELF's CONTRACTS AT THIS DUMP, IN PLAIN WORDS (tools/lay-plain.mjs out of 'TryzShelf.lean', which tools/lay-shelf.mjs wrote): THE SAME DECLARATIONS UNDER THE SAME NAMES: 'import', 'namespace', 'open', 'def', 'theorem' AND NOTHING ELSE: no command of the shelf's: FOR A HAND-IN. Each laying: the table of numbers ('.._ren') and one theorem, a field a fact of the dump's own or the kernel's comparison; each contract: ONE APPLICATION.
-/
namespace Go.Proofs
open Go.Shelf
def Tryz.lays170_ren:Go.Shelf.Ren:=⟨fun|170=>15|n=>n,fun|70=>35|3=>3|0=>0|72=>38|37=>36|5=>5|n=>n,fun|n=>n⟩
theorem Tryz.lays170:Go.Proofs.Lays.n170 Tryz.prog Tryz.lays170_ren:={
 mixed:=by kernel_rfl
 f170:=Tryz.func15.trans (congrArg some (by kernel_rfl))
 t0:=Tryz.underlying0
 a0:=Tryz.isAgg0
 z0:=Tryz.sizeOf0
 v0:=Tryz.zeroValue0
 t3:=Tryz.underlying3
 a3:=Tryz.isAgg3
 z3:=Tryz.sizeOf3
 v3:=Tryz.zeroValue3
 t37:=Tryz.underlying36
 a37:=Tryz.isAgg36
 z37:=Tryz.sizeOf36
 v37:=Tryz.zeroValue36
 t70:=Tryz.underlying35
 a70:=Tryz.isAgg35
 z70:=Tryz.sizeOf35
 v70:=Tryz.zeroValue35
 t72:=Tryz.underlying38
 a72:=Tryz.isAgg38
 z72:=Tryz.sizeOf38
 v72:=Tryz.zeroValue38 }
def Tryz.lays169_ren:Go.Shelf.Ren:=⟨fun|169=>16|n=>n,fun|70=>35|9=>9|0=>0|72=>38|37=>36|127=>92|3=>3|5=>5|n=>n,fun|n=>n⟩
theorem Tryz.lays169:Go.Proofs.Lays.n169 Tryz.prog Tryz.lays169_ren:={
 mixed:=by kernel_rfl
 f169:=Tryz.func16.trans (congrArg some (by kernel_rfl))
 t0:=Tryz.underlying0
 a0:=Tryz.isAgg0
 z0:=Tryz.sizeOf0
 v0:=Tryz.zeroValue0
 t3:=Tryz.underlying3
 a3:=Tryz.isAgg3
 z3:=Tryz.sizeOf3
 v3:=Tryz.zeroValue3
 t9:=Tryz.underlying9
 a9:=Tryz.isAgg9
 z9:=Tryz.sizeOf9
 v9:=Tryz.zeroValue9
 t37:=Tryz.underlying36
 a37:=Tryz.isAgg36
 z37:=Tryz.sizeOf36
 v37:=Tryz.zeroValue36
 t70:=Tryz.underlying35
 a70:=Tryz.isAgg35
 z70:=Tryz.sizeOf35
 v70:=Tryz.zeroValue35
 t72:=Tryz.underlying38
 a72:=Tryz.isAgg38
 z72:=Tryz.sizeOf38
 v72:=Tryz.zeroValue38
 t127:=Tryz.underlying92
 a127:=Tryz.isAgg92
 z127:=Tryz.sizeOf92
 v127:=Tryz.zeroValue92 }
theorem Tryz.Builder_Extra_169:Builder.Extra Tryz.prog Tryz.lays169_ren:={
 sizeBuilder:=by kernel_rfl
 liesBuilder:=by kernel_rfl
 t5:=Tryz.underlying5
 a5:=Tryz.isAgg5
 z5:=Tryz.sizeOf5
 v5:=Tryz.zeroValue5
 infoByte:=by kernel_rfl
 cellsByte:=by kernel_rfl
 sizeByte:=by kernel_rfl
 neB5:=by decide }
def Tryz.lays156_ren:Go.Shelf.Ren:=⟨fun|156=>37|165=>67|166=>10|169=>16|240=>33|241=>95|276=>66|277=>118|n=>n,fun|31=>39|9=>9|3=>3|4=>4|0=>0|20=>20|72=>38|76=>47|70=>35|37=>36|75=>46|127=>92|164=>113|5=>5|80=>56|n=>n,fun|n=>n⟩
theorem Tryz.lays156:Go.Proofs.Lays.n156 Tryz.prog Tryz.lays156_ren:={
 mixed:=by kernel_rfl
 f156:=Tryz.func37.trans (congrArg some (by kernel_rfl))
 f165:=Tryz.func67.trans (congrArg some (by kernel_rfl))
 f166:=Tryz.func10.trans (congrArg some (by kernel_rfl))
 f169:=Tryz.func16.trans (congrArg some (by kernel_rfl))
 f240:=Tryz.func33.trans (congrArg some (by kernel_rfl))
 f241:=Tryz.func95.trans (congrArg some (by kernel_rfl))
 f276:=Tryz.func66.trans (congrArg some (by kernel_rfl))
 f277:=Tryz.func118.trans (congrArg some (by kernel_rfl))
 t0:=Tryz.underlying0
 a0:=Tryz.isAgg0
 z0:=Tryz.sizeOf0
 v0:=Tryz.zeroValue0
 t3:=Tryz.underlying3
 a3:=Tryz.isAgg3
 z3:=Tryz.sizeOf3
 v3:=Tryz.zeroValue3
 t4:=Tryz.underlying4
 a4:=Tryz.isAgg4
 z4:=Tryz.sizeOf4
 v4:=Tryz.zeroValue4
 t9:=Tryz.underlying9
 a9:=Tryz.isAgg9
 z9:=Tryz.sizeOf9
 v9:=Tryz.zeroValue9
 t20:=Tryz.underlying20
 a20:=Tryz.isAgg20
 z20:=Tryz.sizeOf20
 v20:=Tryz.zeroValue20
 t31:=Tryz.underlying39
 a31:=Tryz.isAgg39
 z31:=Tryz.sizeOf39
 v31:=Tryz.zeroValue39
 t37:=Tryz.underlying36
 a37:=Tryz.isAgg36
 z37:=Tryz.sizeOf36
 v37:=Tryz.zeroValue36
 t70:=Tryz.underlying35
 a70:=Tryz.isAgg35
 z70:=Tryz.sizeOf35
 v70:=Tryz.zeroValue35
 t72:=Tryz.underlying38
 a72:=Tryz.isAgg38
 z72:=Tryz.sizeOf38
 v72:=Tryz.zeroValue38
 t75:=Tryz.underlying46
 a75:=Tryz.isAgg46
 z75:=Tryz.sizeOf46
 v75:=Tryz.zeroValue46
 t76:=Tryz.underlying47
 a76:=Tryz.isAgg47
 z76:=Tryz.sizeOf47
 v76:=Tryz.zeroValue47
 t127:=Tryz.underlying92
 a127:=Tryz.isAgg92
 z127:=Tryz.sizeOf92
 v127:=Tryz.zeroValue92
 t164:=Tryz.underlying113
 a164:=Tryz.isAgg113
 z164:=Tryz.sizeOf113
 v164:=Tryz.zeroValue113 }
theorem Tryz.Builder_Extra_156:Builder.Extra Tryz.prog Tryz.lays156_ren:={
 sizeBuilder:=by kernel_rfl
 liesBuilder:=by kernel_rfl
 t5:=Tryz.underlying5
 a5:=Tryz.isAgg5
 z5:=Tryz.sizeOf5
 v5:=Tryz.zeroValue5
 infoByte:=by kernel_rfl
 cellsByte:=by kernel_rfl
 sizeByte:=by kernel_rfl
 neB5:=by decide }
open Go.RowKit in
theorem Tryz.strings_Join_none(a:Option Addr)(c:Nat)(sep:ByteArray)(w:World):
  Calls Tryz.prog 37 #[.slice a 0 c,.string sep] w fun e w'=>e=.returned (.string ⟨#[]⟩)/\w'=w:=Any.strings_Join_none Tryz.lays156 Tryz.Builder_Extra_156 a c sep w
open Go.RowKit in
theorem Tryz.strings_Join(bk o c:Nat)(xs:List ByteArray)(sep:ByteArray)(w:World)(hcells:∀(j:Nat) x,xs[j]? = some x->w.cell? ⟨bk,o+j,none⟩=some (.string x))(hbk:bk<w.heap.size)(hN:xs.length<=140737488355328)(hcap:xs.length<=c)(hlen:(Lib.join (xs.map (·.data.toList)) sep.data.toList).length<=140737488355328):
  Calls Tryz.prog 37 #[.slice (some ⟨bk,o,none⟩) xs.length c,.string sep] w fun e w'=>e=.returned (.string ⟨(Lib.join (xs.map (·.data.toList)) sep.data.toList).toArray⟩)/\Below w.heap.size w w':=Any.strings_Join Tryz.lays156 Tryz.Builder_Extra_156 bk o c xs sep w hcells hbk hN hcap hlen
def Tryz.lays137_ren:Go.Shelf.Ren:=⟨fun|137=>62|217=>93|266=>117|n=>n,fun|9=>9|5=>5|3=>3|n=>n,fun|n=>n⟩
theorem Tryz.lays137:Go.Proofs.Lays.n137 Tryz.prog Tryz.lays137_ren:={
 mixed:=by kernel_rfl
 f137:=Tryz.func62.trans (congrArg some (by kernel_rfl))
 f217:=Tryz.func93.trans (congrArg some (by kernel_rfl))
 f266:=Tryz.func117.trans (congrArg some (by kernel_rfl))
 t3:=Tryz.underlying3
 a3:=Tryz.isAgg3
 z3:=Tryz.sizeOf3
 v3:=Tryz.zeroValue3
 t5:=Tryz.underlying5
 a5:=Tryz.isAgg5
 z5:=Tryz.sizeOf5
 v5:=Tryz.zeroValue5
 t9:=Tryz.underlying9
 a9:=Tryz.isAgg9
 z9:=Tryz.sizeOf9
 v9:=Tryz.zeroValue9 }
open Go.RowKit in
theorem Tryz.strings_IndexByte(s:ByteArray)(c:Int)(w:World):
  Calls Tryz.prog 62 #[.string s,.int .u8 c] w fun e w'=>e=.returned (.int .i64 (Lib.indexByte s.data.toList c.toNat.toUInt8))/\w'=w:=Any.strings_IndexByte Tryz.lays137 s c w
def Tryz.lays172_ren:Go.Shelf.Ren:=⟨fun|172=>86|244=>115|245=>116|247=>133|279=>134|280=>135|281=>136|282=>137|287=>148|316=>149|171=>14|205=>150|321=>160|322=>161|243=>40|246=>70|283=>99|284=>100|285=>101|286=>102|129=>126|317=>125|318=>127|319=>128|320=>129|337=>144|338=>145|n=>n,fun|9=>9|3=>3|75=>46|76=>47|4=>4|5=>5|167=>217|37=>36|0=>0|85=>218|2=>2|168=>220|53=>159|175=>238|46=>196|210=>241|127=>92|145=>258|143=>256|21=>21|171=>158|173=>162|212=>194|51=>119|20=>20|213=>195|232=>253|233=>254|80=>56|n=>n,fun|15=>2|16=>3|17=>0|18=>4|19=>5|n=>n⟩
theorem Tryz.lays172:Go.Proofs.Lays.n172 Tryz.prog Tryz.lays172_ren:={
 mixed:=by kernel_rfl
 f129:=Tryz.func126.trans (congrArg some (by kernel_rfl))
 f171:=Tryz.func14.trans (congrArg some (by kernel_rfl))
 f172:=Tryz.func86.trans (congrArg some (by kernel_rfl))
 f205:=Tryz.func150.trans (congrArg some (by kernel_rfl))
 f243:=Tryz.func40.trans (congrArg some (by kernel_rfl))
 f244:=Tryz.func115.trans (congrArg some (by kernel_rfl))
 f245:=Tryz.func116.trans (congrArg some (by kernel_rfl))
 f246:=Tryz.func70.trans (congrArg some (by kernel_rfl))
 f247:=Tryz.func133.trans (congrArg some (by kernel_rfl))
 f279:=Tryz.func134.trans (congrArg some (by kernel_rfl))
 f280:=Tryz.func135.trans (congrArg some (by kernel_rfl))
 f281:=Tryz.func136.trans (congrArg some (by kernel_rfl))
 f282:=Tryz.func137.trans (congrArg some (by kernel_rfl))
 f283:=Tryz.func99.trans (congrArg some (by kernel_rfl))
 f284:=Tryz.func100.trans (congrArg some (by kernel_rfl))
 f285:=Tryz.func101.trans (congrArg some (by kernel_rfl))
 f286:=Tryz.func102.trans (congrArg some (by kernel_rfl))
 f287:=Tryz.func148.trans (congrArg some (by kernel_rfl))
 f316:=Tryz.func149.trans (congrArg some (by kernel_rfl))
 f317:=Tryz.func125.trans (congrArg some (by kernel_rfl))
 f318:=Tryz.func127.trans (congrArg some (by kernel_rfl))
 f319:=Tryz.func128.trans (congrArg some (by kernel_rfl))
 f320:=Tryz.func129.trans (congrArg some (by kernel_rfl))
 f321:=Tryz.func160.trans (congrArg some (by kernel_rfl))
 f322:=Tryz.func161.trans (congrArg some (by kernel_rfl))
 f337:=Tryz.func144.trans (congrArg some (by kernel_rfl))
 f338:=Tryz.func145.trans (congrArg some (by kernel_rfl))
 t0:=Tryz.underlying0
 a0:=Tryz.isAgg0
 z0:=Tryz.sizeOf0
 v0:=Tryz.zeroValue0
 t2:=Tryz.underlying2
 a2:=Tryz.isAgg2
 z2:=Tryz.sizeOf2
 v2:=Tryz.zeroValue2
 t3:=Tryz.underlying3
 a3:=Tryz.isAgg3
 z3:=Tryz.sizeOf3
 v3:=Tryz.zeroValue3
 t4:=Tryz.underlying4
 a4:=Tryz.isAgg4
 z4:=Tryz.sizeOf4
 v4:=Tryz.zeroValue4
 t5:=Tryz.underlying5
 a5:=Tryz.isAgg5
 z5:=Tryz.sizeOf5
 v5:=Tryz.zeroValue5
 t9:=Tryz.underlying9
 a9:=Tryz.isAgg9
 z9:=Tryz.sizeOf9
 v9:=Tryz.zeroValue9
 t20:=Tryz.underlying20
 a20:=Tryz.isAgg20
 z20:=Tryz.sizeOf20
 v20:=Tryz.zeroValue20
 t21:=Tryz.underlying21
 a21:=Tryz.isAgg21
 z21:=Tryz.sizeOf21
 v21:=Tryz.zeroValue21
 t37:=Tryz.underlying36
 a37:=Tryz.isAgg36
 z37:=Tryz.sizeOf36
 v37:=Tryz.zeroValue36
 t46:=Tryz.underlying196
 a46:=Tryz.isAgg196
 z46:=Tryz.sizeOf196
 v46:=Tryz.zeroValue196
 t51:=Tryz.underlying119
 a51:=Tryz.isAgg119
 z51:=Tryz.sizeOf119
 v51:=Tryz.zeroValue119
 t53:=Tryz.underlying159
 a53:=Tryz.isAgg159
 z53:=Tryz.sizeOf159
 v53:=Tryz.zeroValue159
 t75:=Tryz.underlying46
 a75:=Tryz.isAgg46
 z75:=Tryz.sizeOf46
 v75:=Tryz.zeroValue46
 t76:=Tryz.underlying47
 a76:=Tryz.isAgg47
 z76:=Tryz.sizeOf47
 v76:=Tryz.zeroValue47
 t85:=Tryz.underlying218
 a85:=Tryz.isAgg218
 z85:=Tryz.sizeOf218
 v85:=Tryz.zeroValue218
 t127:=Tryz.underlying92
 a127:=Tryz.isAgg92
 z127:=Tryz.sizeOf92
 v127:=Tryz.zeroValue92
 t143:=Tryz.underlying256
 a143:=Tryz.isAgg256
 z143:=Tryz.sizeOf256
 v143:=Tryz.zeroValue256
 t145:=Tryz.underlying258
 a145:=Tryz.isAgg258
 z145:=Tryz.sizeOf258
 v145:=Tryz.zeroValue258
 t167:=Tryz.underlying217
 a167:=Tryz.isAgg217
 z167:=Tryz.sizeOf217
 v167:=Tryz.zeroValue217
 t168:=Tryz.underlying220
 a168:=Tryz.isAgg220
 z168:=Tryz.sizeOf220
 v168:=Tryz.zeroValue220
 t171:=Tryz.underlying158
 a171:=Tryz.isAgg158
 z171:=Tryz.sizeOf158
 v171:=Tryz.zeroValue158
 t173:=Tryz.underlying162
 a173:=Tryz.isAgg162
 z173:=Tryz.sizeOf162
 v173:=Tryz.zeroValue162
 t175:=Tryz.underlying238
 a175:=Tryz.isAgg238
 z175:=Tryz.sizeOf238
 v175:=Tryz.zeroValue238
 t210:=Tryz.underlying241
 a210:=Tryz.isAgg241
 z210:=Tryz.sizeOf241
 v210:=Tryz.zeroValue241
 t212:=Tryz.underlying194
 a212:=Tryz.isAgg194
 z212:=Tryz.sizeOf194
 v212:=Tryz.zeroValue194
 t213:=Tryz.underlying195
 a213:=Tryz.isAgg195
 z213:=Tryz.sizeOf195
 t232:=Tryz.underlying253
 a232:=Tryz.isAgg253
 z232:=Tryz.sizeOf253
 v232:=Tryz.zeroValue253
 t233:=Tryz.underlying254
 a233:=Tryz.isAgg254
 z233:=Tryz.sizeOf254
 v233:=Tryz.zeroValue254
 g15:=by kernel_rfl
 g16:=by kernel_rfl
 g17:=by kernel_rfl
 g18:=by kernel_rfl
 g19:=by kernel_rfl }
open Go.RowKit in
theorem Tryz.strconv_Atoi(s:ByteArray)(n:Int)(hl:s.size<=18)(h:Lib.atoi s.data.toList=some n)(w:World):
  Calls Tryz.prog 86 #[.string s] w fun e w'=>e=.returned (.tuple #[.int .i64 n,.nilIface])/\∃t,w'=Lib.bytesWorld w 5 t:=Any.strconv_Atoi Tryz.lays172 s n hl h w
def Tryz.laysM171_ren:Go.Shelf.Ren:=⟨fun|171=>14|243=>40|246=>70|283=>99|284=>100|285=>101|286=>102|129=>126|317=>125|318=>127|319=>128|320=>129|337=>144|338=>145|n=>n,fun|3=>3|9=>9|2=>2|4=>4|171=>158|0=>0|53=>159|37=>36|5=>5|173=>162|212=>194|51=>119|20=>20|213=>195|46=>196|232=>253|233=>254|n=>n,fun|17=>0|18=>4|19=>5|n=>n⟩
theorem Tryz.laysM171:Go.Proofs.LaysM.n171 Tryz.prog Tryz.laysM171_ren:={
 mixed:=by kernel_rfl
 f129:=Tryz.func126.trans (congrArg some (by kernel_rfl))
 f171:=Tryz.func14.trans (congrArg some (by kernel_rfl))
 f243:=Tryz.func40.trans (congrArg some (by kernel_rfl))
 f246:=Tryz.func70.trans (congrArg some (by kernel_rfl))
 f283:=Tryz.func99.trans (congrArg some (by kernel_rfl))
 f284:=Tryz.func100.trans (congrArg some (by kernel_rfl))
 f285:=Tryz.func101.trans (congrArg some (by kernel_rfl))
 f286:=Tryz.func102.trans (congrArg some (by kernel_rfl))
 f317:=Tryz.func125.trans (congrArg some (by kernel_rfl))
 f318:=Tryz.func127.trans (congrArg some (by kernel_rfl))
 f319:=Tryz.func128.trans (congrArg some (by kernel_rfl))
 f320:=Tryz.func129.trans (congrArg some (by kernel_rfl))
 f337:=Tryz.func144.trans (congrArg some (by kernel_rfl))
 f338:=Tryz.func145.trans (congrArg some (by kernel_rfl))
 t0:=Tryz.underlying0
 a0:=Tryz.isAgg0
 z0:=Tryz.sizeOf0
 v0:=Tryz.zeroValue0
 t2:=Tryz.underlying2
 a2:=Tryz.isAgg2
 z2:=Tryz.sizeOf2
 v2:=Tryz.zeroValue2
 t3:=Tryz.underlying3
 a3:=Tryz.isAgg3
 z3:=Tryz.sizeOf3
 v3:=Tryz.zeroValue3
 t4:=Tryz.underlying4
 a4:=Tryz.isAgg4
 z4:=Tryz.sizeOf4
 v4:=Tryz.zeroValue4
 t5:=Tryz.underlying5
 a5:=Tryz.isAgg5
 z5:=Tryz.sizeOf5
 v5:=Tryz.zeroValue5
 t9:=Tryz.underlying9
 a9:=Tryz.isAgg9
 z9:=Tryz.sizeOf9
 v9:=Tryz.zeroValue9
 t20:=Tryz.underlying20
 a20:=Tryz.isAgg20
 z20:=Tryz.sizeOf20
 v20:=Tryz.zeroValue20
 t37:=Tryz.underlying36
 a37:=Tryz.isAgg36
 z37:=Tryz.sizeOf36
 v37:=Tryz.zeroValue36
 t46:=Tryz.underlying196
 a46:=Tryz.isAgg196
 z46:=Tryz.sizeOf196
 v46:=Tryz.zeroValue196
 t51:=Tryz.underlying119
 a51:=Tryz.isAgg119
 z51:=Tryz.sizeOf119
 v51:=Tryz.zeroValue119
 t53:=Tryz.underlying159
 a53:=Tryz.isAgg159
 z53:=Tryz.sizeOf159
 v53:=Tryz.zeroValue159
 t171:=Tryz.underlying158
 a171:=Tryz.isAgg158
 z171:=Tryz.sizeOf158
 v171:=Tryz.zeroValue158
 t173:=Tryz.underlying162
 a173:=Tryz.isAgg162
 z173:=Tryz.sizeOf162
 v173:=Tryz.zeroValue162
 t212:=Tryz.underlying194
 a212:=Tryz.isAgg194
 z212:=Tryz.sizeOf194
 v212:=Tryz.zeroValue194
 t213:=Tryz.underlying195
 a213:=Tryz.isAgg195
 z213:=Tryz.sizeOf195
 t232:=Tryz.underlying253
 a232:=Tryz.isAgg253
 z232:=Tryz.sizeOf253
 v232:=Tryz.zeroValue253
 t233:=Tryz.underlying254
 a233:=Tryz.isAgg254
 z233:=Tryz.sizeOf254
 v233:=Tryz.zeroValue254
 g17:=by kernel_rfl
 g18:=by kernel_rfl
 g19:=by kernel_rfl
 i0:=by kernel_rfl
 i2:=by kernel_rfl
 i3:=by kernel_rfl
 i4:=by kernel_rfl
 i5:=by kernel_rfl
 i9:=by kernel_rfl
 i20:=by kernel_rfl
 i37:=by kernel_rfl
 i46:=by kernel_rfl
 i51:=by kernel_rfl
 i53:=by kernel_rfl
 i171:=by kernel_rfl
 i173:=by kernel_rfl
 i212:=by kernel_rfl
 i232:=by kernel_rfl
 i233:=by kernel_rfl
 m17:=by kernel_rfl
 m18:=by kernel_rfl
 m19:=by kernel_rfl }
open Go.RowKit Go.Sort Go.Lib in
theorem Tryz.strconv_Itoa (n:Int) (h0 : -9223372036854775808<=n) (h1:n<=9223372036854775807) (w:World) (htab:Lib.TabIs Tryz.prog w "internal/strconv.uint64pow10" .u64 Lib.pow10Tab):
  Calls Tryz.prog 14 #[.int .i64 n] w fun e w'=>e=.returned (.string ⟨(Lib.itoa n).toArray⟩)/\∃k os,w'=grow (w.drewN k) os:=Any.strconv_Itoa Tryz.laysM171 n h0 h1 w htab
def Tryz.lays138_ren:Go.Shelf.Ren:=⟨fun|138=>198|195=>199|218=>200|143=>201|219=>202|217=>93|225=>203|224=>204|267=>205|266=>117|314=>206|n=>n,fun|9=>9|3=>3|4=>4|5=>5|0=>0|46=>196|146=>290|51=>119|n=>n,fun|1=>1|n=>n⟩
theorem Tryz.lays138:Go.Proofs.Lays.n138 Tryz.prog Tryz.lays138_ren:={
 mixed:=by kernel_rfl
 f138:=Tryz.func198.trans (congrArg some (by kernel_rfl))
 f143:=Tryz.func201.trans (congrArg some (by kernel_rfl))
 f195:=Tryz.func199.trans (congrArg some (by kernel_rfl))
 f217:=Tryz.func93.trans (congrArg some (by kernel_rfl))
 f218:=Tryz.func200.trans (congrArg some (by kernel_rfl))
 f219:=Tryz.func202.trans (congrArg some (by kernel_rfl))
 f224:=Tryz.func204.trans (congrArg some (by kernel_rfl))
 f225:=Tryz.func203.trans (congrArg some (by kernel_rfl))
 f266:=Tryz.func117.trans (congrArg some (by kernel_rfl))
 f267:=Tryz.func205.trans (congrArg some (by kernel_rfl))
 f314:=Tryz.func206.trans (congrArg some (by kernel_rfl))
 t0:=Tryz.underlying0
 a0:=Tryz.isAgg0
 z0:=Tryz.sizeOf0
 v0:=Tryz.zeroValue0
 t3:=Tryz.underlying3
 a3:=Tryz.isAgg3
 z3:=Tryz.sizeOf3
 v3:=Tryz.zeroValue3
 t4:=Tryz.underlying4
 a4:=Tryz.isAgg4
 z4:=Tryz.sizeOf4
 v4:=Tryz.zeroValue4
 t5:=Tryz.underlying5
 a5:=Tryz.isAgg5
 z5:=Tryz.sizeOf5
 v5:=Tryz.zeroValue5
 t9:=Tryz.underlying9
 a9:=Tryz.isAgg9
 z9:=Tryz.sizeOf9
 v9:=Tryz.zeroValue9
 t46:=Tryz.underlying196
 a46:=Tryz.isAgg196
 z46:=Tryz.sizeOf196
 v46:=Tryz.zeroValue196
 t51:=Tryz.underlying119
 a51:=Tryz.isAgg119
 z51:=Tryz.sizeOf119
 v51:=Tryz.zeroValue119
 t146:=Tryz.underlying290
 a146:=Tryz.isAgg290
 z146:=Tryz.sizeOf290
 v146:=Tryz.zeroValue290
 g1:=by kernel_rfl }
open Go.RowKit Go.Lib in
theorem Tryz.strings_Count_one(s:ByteArray)(c:UInt8)(w:World):
  Calls Tryz.prog 198 #[.string s,.string ⟨#[c]⟩] w fun e w'=>e=.returned (.int .i64 (Lib.countByte s.data.toList c))/\w'=w:=Any.strings_Count_one Tryz.lays138 s c w
end Go.Proofs
namespace Go.Pv
open Go Go.RowKit
structure Bun(m:Mem)(β:Locs)(w:World)(k:Nat)(hp:Heap):Prop where
 imm:∀(b:Nat) o,m b=some o->w.heap[b]? = some o
 own:∀id,ObOk m β w (β.hid id) (β id) (hget hp id)
 priv:∀id b cap,hget hp id≠.dead->β id=some (some (b,cap))->m b=none
 inj:∀id id' b cap cap',hget hp id≠.dead->hget hp id'≠.dead->β id=some (some (b,cap))->β id'=some (some (b,cap'))->id=id'
 hid:∀id x,hget hp id≠.dead->β.hid id x->x<w.heap.size/\m x=none/\(∀i b c,hget hp i≠.dead->β i=some (some (b,c))->x≠b)/\∀i,hget hp i≠.dead->β.hid i x->i=id
 nx:∀id,k<=id->β id=none
theorem hget_only{o:Ob}{id:Nat}(h:hget [(0,o)] id≠.dead):id=0:=by
 rw[hget_put] at h
 by_cases e:0=id
 ·exact e.symm
 ·rw[if_neg e] at h;exact absurd rfl h
theorem hget_only0{o:Ob}:hget [(0,o)] 0=o:=rfl
section
variable{m:Mem}{β:Locs}{w:World}{k n b:Nat}{cap:Cap}{e:TypeId}{row:List V}
theorem Bun.cell(r:Bun m β w k [(0,.arr e n [row])])(hb:β 0=some (some (b,cap))){j:Nat}{v:Value}(hj:row[j]? = some (.con v)):
  w.cell? ⟨b,cap.off+j,none⟩=some v/\w.frozen? ⟨b,cap.off+j,none⟩=false:=by
 have h:=r.own 0
 rw[hb,hget_only0] at h
 obtain⟨arr,bl,h1,h2,h3,h4,h5,h6,h7⟩:=h
 obtain⟨v',a1,a2,a3⟩:=h7 0 j row _ (by simp) hj
 have:v=v':=by
  cases a2.v rfl with
  |imm h=>cases h;rfl
 subst this
 rw[Nat.zero_mul,br9] at a1
 refine⟨?_,by simp[World.frozen?,h1]⟩
 simp[World.cell?,h1,a1]
theorem Bun.set(r:Bun m β w k [(0,.arr e n [row])])(hb:β 0=some (some (b,cap))){j:Nat}{v:Value}(hv:v.oneCell'=true):
  Bun m β (w.setCell ⟨b,cap.off+j,none⟩ v) k [(0,.arr e n [row.set j (.con v)])]:=by
 have hl:hget [(0,Ob.arr e n [row])] 0≠.dead:=by rw[hget_only0];simp
 have hne:∀i,hget [(0,Ob.arr e n [row.set j (.con v)])] i≠.dead->hget [(0,Ob.arr e n [row])] i≠.dead:=fun i h=>by
  rw[hget_only h];exact hl
 have hsz:(w.setCell ⟨b,cap.off+j,none⟩ v).heap.size=w.heap.size:=by simp[World.setCell]
 refine⟨?_,?_,fun i b' c h=>r.priv i b' c (hne i h),fun i i' b' c c' h h'=>r.inj i i' b' c c' (hne i h) (hne i' h'),?_,r.nx⟩
 ·intro b' o h
  rw[heap_setCell_other _ _ _ _ (fun he=>by rw[he,r.priv 0 b cap hl hb] at h;cases h)]
  exact r.imm b' o h
 ·intro i
  by_cases hi:i=0
  ·subst hi
   have h:=r.own 0
   rw[hb,hget_only0] at h
   obtain⟨arr,bl,h1,h2,h3,h4,h5,h6,h7⟩:=h
   rw[hb,hget_only0]
   refine⟨arr.setIfInBounds (cap.off+j) v,bl,heap_setCell_same w b _ arr e v h1,by simp[h2],h3,h4,?_,h6,?_⟩
   ·intro r' hr'
    simp at hr';subst hr'
    rw[List.length_set];exact h5 row (by simp)
   ·intro i j' r' c hi hj
    have hi0:i=0:=by
     cases i with
     |zero=>rfl
     |succ i=>simp at hi
    subst hi0
    simp at hi;subst hi
    have hsame:∀x,β.hid 0 x->(w.setCell ⟨b,cap.off+j,none⟩ v).heap[x]? = w.heap[x]?:=fun x hx=>
     heap_setCell_other _ _ _ _ ((r.hid 0 x hl hx).2.2.1 0 b cap hl hb)
    rw[List.getElem?_set] at hj
    split at hj
    ·rename_i hjj
     subst hjj
     split at hj
     ·rename_i hlt
      cases hj
      have hrow:=h5 row (by simp)
      refine⟨v,?_,.inl (.imm (.con v)),hv⟩
      have:cap.off+j<arr.size:=by
       obtain⟨v',a1,_⟩:=h7 0 j row row[j] (by simp) (by simp[hlt])
       rw[Nat.zero_mul,br9] at a1
       exact(au8.1 a1).1
      simp[this]
     ·cases hj
    ·rename_i hjj
     obtain⟨v',a1,a2,a3⟩:=h7 0 j' row c (by simp) hj
     refine⟨v',?_,a2.mono (Mem.le_refl _) (Locs.le_refl _) (fun _ h=>h) (fun x hx=>hsame x (h6.1 _ x hx)),a3⟩
     rw[Array.getElem?_setIfInBounds_ne (by omega)]
     exact a1
  ·have:hget [(0,Ob.arr e n [row.set j (.con v)])] i=.dead:=by
    rw[hget_put,if_neg (fun h=>hi h.symm)];rfl
   rw[this];exact ObOk.dead' _
 ·intro i x h hx
  obtain⟨a1,a2,a3,a4⟩:=r.hid i x (hne i h) hx
  exact⟨by rw[hsz];exact a1,a2,fun i' b' c h'=>a3 i' b' c (hne i' h'),fun i' h'=>a4 i' (hne i' h')⟩
theorem Bun.drew{hp:Heap}(r:Bun m β w k hp):Bun m β w.drew k hp:=
 ⟨r.imm,fun i=>ObOk.mono (w:=w) (w':=w.drew) (Mem.le_refl _) (Locs.le_refl _) (fun _ _ h=>h) (fun _ _=>rfl) (r.own i),r.priv,r.inj,r.hid,r.nx⟩
end
theorem mut_once{gl:Gl}{P:Program}{fD fB:FuncId}{e n:Nat}{rs rs2:List V}
  (hDo:∀(b off:Nat) (w:World) (Q:World->Prop),w.cell? ⟨b,off,none⟩=some (.int .u32 0)->w.cell? ⟨b,off+1,none⟩=some (.int .i32 0)->
   w.frozen? ⟨b,off,none⟩=false->w.frozen? ⟨b,off+1,none⟩=false->
   Calls P fB #[.pointer (some ⟨b,off,none⟩)] (w.setCell ⟨b,off+1,none⟩ (.int .i32 1)) (fun e w'=>e=.returned (.tuple #[])/\Q w')->
   (∀w',Q w'->(w'.cell? ⟨b,off,none⟩=some (.int .u32 0)/\w'.frozen? ⟨b,off,none⟩=false)/\w'.cell? ⟨b,off+1,none⟩=some (.int .i32 1)/\w'.frozen? ⟨b,off+1,none⟩=false)->
   Calls P fD #[.pointer (some ⟨b,off,none⟩),.func (.func fB) #[.pointer (some ⟨b,off,none⟩)] #[]] w fun e w''=>e=.returned (.tuple #[])/\
    ∃w',Q w'/\w''=(w'.drew.setCell ⟨b,off,none⟩ (.int .u32 1)).setCell ⟨b,off+1,none⟩ (.int .i32 0))
  (h:MutG gl P fB [V.ptr 0 n 0 0] 1 [(0,Ob.arr e n [V.con (.int .u32 0)::V.con (.int .i32 1)::rs])] (resV []) 1 [(0,Ob.arr e n [V.con (.int .u32 0)::V.con (.int .i32 1)::rs2])]):
  MutG gl P fD [V.ptr 0 n 0 0,V.fn (.func fB) [V.ptr 0 n 0 0] []] 1 [(0,Ob.arr e n [V.con (.int .u32 0)::V.con (.int .i32 0)::rs])] (resV []) 1 [(0,Ob.arr e n [V.con (.int .u32 1)::V.con (.int .i32 0)::rs2])]:=by
 intro m β w vs himm hgl hargs hown hpriv hinj hhid hnx
 have hB:Bun m β w 1 [(0,Ob.arr e n [V.con (.int .u32 0)::V.con (.int .i32 0)::rs])]:=⟨himm,hown,hpriv,hinj,hhid,hnx⟩
 obtain⟨v0,v1,rfl⟩:∃a b,vs=#[a,b]:=by
  obtain⟨l⟩:=vs
  have:=hargs.len
  match l,this with
  |[a,b],_=>exact⟨a,b,rfl⟩
 have hp0:=hargs.at' 0 _ v0 rfl rfl
 have hp1:=hargs.at' 1 _ v1 rfl rfl
 cases hp0 with
 |imm h=>cases h
 | @ptr _ _ _ _ b cap hb=>
  have hv1:v1=.func (.func fB) #[.pointer (some ⟨b,cap.off,none⟩)] #[]:=by
   cases hp1 with
   |imm hi=>
    cases hi with
    | @fn _ _ _ fs cs hl hl' g g'=>
     have hz:0<fs.size:=by rw[<-hl];exact Nat.one_pos
     have:=g 0 _ fs[0] rfl (av9 hz)
     cases this
   | @fn _ _ _ fs cs hl hl' g g'=>
    have hz:0<fs.size:=by rw[<-hl];exact Nat.one_pos
    have:=g 0 _ fs[0] rfl (av9 hz)
    obtain⟨l⟩:=fs
    obtain⟨l'⟩:=cs
    match l,hl,l',hl' with
    |[x],_,[],_=>
     simp at this
     cases this with
     |imm hi=>cases hi
     |ptr hb'=>
      rw[hb] at hb'
      cases hb'
      simp
  have e0:cap.off+(0*n+0)=cap.off:=by simp
  subst hv1
  rw[e0]
  have hl0:∀(x y:V),hget [(0,Ob.arr e n [x::y::rs])] 0≠.dead:=fun x y=>by rw[hget_only0];simp
  have hl2:∀(x y:V),hget [(0,Ob.arr e n [x::y::rs2])] 0≠.dead:=fun x y=>by rw[hget_only0];simp
  have hB1:=hB.set hb (j:=1) (v:=.int .i32 1) rfl
  simp only[List.set_cons_succ,List.set_cons_zero] at hB1
  have hF:∀(x y:V) (b':Nat),Foreign [(0,Ob.arr e n [V.con (.int .u32 0)::V.con (.int .i32 0)::rs])] β b'->Foreign [(0,Ob.arr e n [x::y::rs])] β b':=fun x y b' hf i hi=>by
   rw[hget_only hi];exact hf 0 (hl0 _ _)
  have hF':∀(x y:V) (b':Nat),Foreign [(0,Ob.arr e n [x::y::rs])] β b'->Foreign [(0,Ob.arr e n [V.con (.int .u32 0)::V.con (.int .i32 0)::rs])] β b':=fun x y b' hf i hi=>by
   rw[hget_only hi];exact hf 0 (hl0 _ _)
  have hsz:(w.setCell ⟨b,cap.off+1,none⟩ (.int .i32 1)).heap.size=w.heap.size:=by simp[World.setCell]
  have key:∀(w':World),(∃v m' β',Ending.returned (.tuple #[])=.returned v/\VRel m' β' (resV []) v/\After m β (w.setCell ⟨b,cap.off+1,none⟩ (.int .i32 1)) 1 [(0,Ob.arr e n [V.con (.int .u32 0)::V.con (.int .i32 1)::rs])] m' β' w' 1 [(0,Ob.arr e n [V.con (.int .u32 0)::V.con (.int .i32 1)::rs2])])->
    ∃m' β',After m β (w.setCell ⟨b,cap.off+1,none⟩ (.int .i32 1)) 1 [(0,Ob.arr e n [V.con (.int .u32 0)::V.con (.int .i32 1)::rs])] m' β' w' 1 [(0,Ob.arr e n [V.con (.int .u32 0)::V.con (.int .i32 1)::rs2])]/\
     β' 0=some (some (b,cap))/\Bun m' β' w' 1 [(0,Ob.arr e n [V.con (.int .u32 0)::V.con (.int .i32 1)::rs2])]:=by
   rintro w' ⟨v,m',β',_,_,a⟩
   exact⟨m',β',a,by rw[(a.pin 0 Nat.one_pos).2,hb],⟨a.imm,a.own,fun i b' c hi h=>(a.priv i b' c hi h).1,a.inj,fun i x hi hx=>⟨(a.hid i x hi hx).1,(a.hid i x hi hx).2.1,(a.hid i x hi hx).2.2.2⟩,a.nx⟩⟩
  have hcall:=h m β (w.setCell ⟨b,cap.off+1,none⟩ (.int .i32 1)) #[.pointer (some ⟨b,cap.off,none⟩)] hB1.imm hgl
   ⟨rfl,fun i c v hc hv=>by
    match i with
    |0=>simp at hc hv;subst hc;subst hv;exact(e0 ▸ VRel.ptr (k:=n) (i:=0) (off:=0) hb)
    |i+1=>simp at hc⟩ hB1.own hB1.priv hB1.inj hB1.hid hB1.nx
  refine(hDo b cap.off w (fun w'=>∃v m' β',Ending.returned (.tuple #[])=.returned v/\VRel m' β' (resV []) v/\After m β (w.setCell ⟨b,cap.off+1,none⟩ (.int .i32 1)) 1 [(0,Ob.arr e n [V.con (.int .u32 0)::V.con (.int .i32 1)::rs])] m' β' w' 1 [(0,Ob.arr e n [V.con (.int .u32 0)::V.con (.int .i32 1)::rs2])])
   (hB.cell hb (j:=0) rfl).1 (hB.cell hb (j:=1) rfl).1 (hB.cell hb (j:=0) rfl).2 (hB.cell hb (j:=1) rfl).2 (hcall.mono ?_) ?_).mono ?_
  ·rintro ex w' ⟨v,m',β',rfl,hv,a⟩
   have:v=.tuple #[]:=by
    have hv':VRel m' β' (.tup []) v:=hv
    cases hv' with
    |imm hi=>
     cases hi with
     | @tup _ vs hl _=>obtain⟨l⟩:=vs;match l,hl with|[],_=>rfl
    | @tup _ vs hl _=>obtain⟨l⟩:=vs;match l,hl with|[],_=>rfl
   subst this
   exact⟨rfl,_,m',β',rfl,hv,a⟩
  ·intro w' hw'
   obtain⟨m',β',a,hb',hB2⟩:=key w' hw'
   exact⟨hB2.cell hb' (j:=0) rfl,hB2.cell hb' (j:=1) rfl⟩
  ·rintro ex w'' ⟨rfl,w',hw',rfl⟩
   obtain⟨m',β',a,hb',hB2⟩:=key w' hw'
   have hB3:=(hB2.drew.set hb' (j:=0) (v:=.int .u32 1) rfl).set hb' (j:=1) (v:=.int .i32 0) rfl
   simp only[List.set_cons_succ,List.set_cons_zero] at hB3
   have hsz2:(((w'.drew).setCell ⟨b,cap.off,none⟩ (.int .u32 1)).setCell ⟨b,cap.off+1,none⟩ (.int .i32 0)).heap.size=w'.heap.size:=by simp[World.setCell]
   have hlv:∀(x y:V) i,hget [(0,Ob.arr e n [V.con (.int .u32 1)::V.con (.int .i32 0)::rs2])] i≠.dead->hget [(0,Ob.arr e n [x::y::rs2])] i≠.dead:=fun x y i hi=>by
    rw[hget_only hi];exact hl2 _ _
   refine⟨_,m',β',rfl,.imm (.tup (cs:=[]) (vs:=#[]) rfl (by simp)),a.le,hB3.imm,?_,?_,?_,hB3.own,?_,hB3.inj,?_,hB3.nx,a.pin⟩
   ·intro b' hlt hf
    have hne:b'≠b:=fun he=>(hf 0 (hl0 _ _)).1 cap (by rw[he];exact hb)
    obtain⟨a1,a2⟩:=a.old b' (by rw[hsz];exact hlt) (hF _ _ _ hf)
    refine⟨a1,?_⟩
    rw[heap_setCell_other _ _ _ _ hne,heap_setCell_other _ _ _ _ hne,heap_drew,a2,heap_setCell_other _ _ _ _ hne]
   ·rw[hsz2];have:=a.size;omega
   ·exact⟨a.same.os,a.same.tape,a.same.output,trivial⟩
   ·intro i b' c hi h'
    obtain⟨a1,a2⟩:=a.priv i b' c (hlv _ _ i hi) h'
    exact⟨a1,fun hlt hf=>a2 (by rw[hsz];exact hlt) (hF _ _ _ hf)⟩
   ·intro i x hi hx
    obtain⟨a1,a2,a3,a4,a5⟩:=a.hid i x (hlv _ _ i hi) hx
    refine⟨by rw[hsz2];exact a1,a2,fun hlt hf=>a3 (by rw[hsz];exact hlt) (hF _ _ _ hf),fun i' b' c h'=>a4 i' b' c (hlv _ _ i' h'),fun i' h'=>a5 i' (hlv _ _ i' h')⟩
end Go.Pv
namespace Go.Proofs.YtppfkkkifdbnaaaGreatDoor.Qd
open Go Go.Pv
set_option maxRecDepth 100000
set_option maxHeartbeats 1600000
theorem disable(w:World):(callFunc 151 #[]).run Tryz.prog w=.ok (.value (.tuple #[])) w:=run_call_mark0 Tryz.func151 (by kernel_rfl) (by kernel_rfl) (by kernel_rfl) .disable (by kernel_rfl) w
theorem enable(w:World):(callFunc 153 #[]).run Tryz.prog w=.ok (.value (.tuple #[])) w:=run_call_mark0 Tryz.func153 (by kernel_rfl) (by kernel_rfl) (by kernel_rfl) .enable (by kernel_rfl) w
theorem acquire(a:Addr)(w:World):(callFunc 154 #[.pointer (some a)]).run Tryz.prog w=.ok (.value (.tuple #[])) w:=run_call_marked Tryz.func154 (by kernel_rfl) (by kernel_rfl) (by kernel_rfl) .acquire (by kernel_rfl) a w
theorem releaseMerge(a:Addr)(w:World):(callFunc 156 #[.pointer (some a)]).run Tryz.prog w=.ok (.value (.tuple #[])) w:=run_call_marked Tryz.func156 (by kernel_rfl) (by kernel_rfl) (by kernel_rfl) .releaseMerge (by kernel_rfl) a w
theorem store_deferred(a:Addr)(x:Value)(u:FrameMode)(w:World)(hc:w.cell? a=some x)(hz:w.frozen? a=false):
  CallsD Tryz.prog 122 #[.pointer (some a),.bool true] u w fun e u' w'=>u'=u/\(e=.returned (.tuple #[])/\w'=w.drew.setCell a (.int .u32 1)):=by
 have hc':w.drew.cell? a=some x:=by go_simp
 have hz':w.drew.frozen? a=false:=by go_simp
 have hst:=run_call_store (P:=Tryz.prog) Tryz.func140 (by kernel_rfl) (by kernel_rfl) (by kernel_rfl) (by kernel_rfl) (k:=.u32) (y:=1) hc' hz'
 go_enter_d Tryz.func122,Tryz.ntmps122
 go_wp2
 go_region_calls
 all_goals (go_end0;exact⟨rfl,rfl⟩)
theorem unlock_deferred(a:Addr)(u:FrameMode)(w:World)(hc:w.cell? a=some (.int .i32 1))(hz:w.frozen? a=false):
  CallsD Tryz.prog 121 #[.pointer (some a)] u w fun e u' w'=>u'=u/\(e=.returned (.tuple #[])/\w'=w.setCell a (.int .i32 0)):=by
 have hd:=disable
 have he:=enable
 have hr:=releaseMerge
 have hadd:=run_call_add (P:=Tryz.prog) Tryz.func157 (by kernel_rfl) (by kernel_rfl) (by kernel_rfl) .i32 (by kernel_rfl) (y:=-1) (s:=0) hc hz (by simp[go_sem];rfl)
 have hcv:=run_convert_to_unsafe (P:=Tryz.prog) (src:=243) (dst:=113) Tryz.underlying243 Tryz.underlying113 (by kernel_rfl) hc
 go_enter_d Tryz.func121,Tryz.ntmps121
 go_wp2
 go_end0
 go_wp2
 go_end0
 exact⟨rfl,rfl⟩
theorem lock_free(a:Addr)(w:World)(hc:w.cell? a=some (.int .i32 0))(hz:w.frozen? a=false):
  Calls Tryz.prog 120 #[.pointer (some a)] w fun e w'=>e=.returned (.tuple #[])/\w'=w.setCell a (.int .i32 1):=by
 have hd:=disable
 have he:=enable
 have ha:=acquire
 have hcas:=run_call_cas_hit (P:=Tryz.prog) Tryz.func152 (by kernel_rfl) (by kernel_rfl) (by kernel_rfl) .i32 (by kernel_rfl) (y:=1) hc hz
 have hc':(w.setCell a (.int .i32 1)).cell? a=some (.int .i32 1):=World.cell?_setCell_same w a _ hc
 have hcv:=run_convert_to_unsafe (P:=Tryz.prog) (src:=243) (dst:=113) Tryz.underlying243 Tryz.underlying113 (by kernel_rfl) hc'
 go_enter Tryz.func120,Tryz.ntmps120
 go_wp2
 first|go_end0|(simp only[Exit.inBlock,Exit.then];refine bodyPost_ret (results_none rfl _ _ _) rfl ?_)|refine bodyPost_ret (results_none rfl _ _ _) rfl ?_
 go_wp2
 go_end0
 exact⟨rfl,rfl⟩
section
variable(b off:Nat)(w:World)(Q:World->Prop)(h0:w.cell? ⟨b,off,none⟩=some (.int .u32 0))(h1:w.cell? ⟨b,off+1,none⟩=some (.int .i32 0))
 (f1:w.frozen? ⟨b,off+1,none⟩=false)
 (hC:Calls Tryz.prog 69 #[.pointer (some ⟨b,off,none⟩)] (w.setCell ⟨b,off+1,none⟩ (.int .i32 1)) (fun e w'=>e=.returned (.tuple #[])/\Q w'))
 (hQ:∀w',Q w'->(w'.cell? ⟨b,off,none⟩=some (.int .u32 0)/\w'.frozen? ⟨b,off,none⟩=false)/\w'.cell? ⟨b,off+1,none⟩=some (.int .i32 1)/\w'.frozen? ⟨b,off+1,none⟩=false)
include h0 h1 f1 hC hQ
theorem slow_once:Calls Tryz.prog 97 #[.pointer (some ⟨b,off,none⟩),.func (.func 69) #[.pointer (some ⟨b,off,none⟩)] #[]] w fun e w''=>e=.returned (.tuple #[])/\
  ∃w',Q w'/\w''=(w'.drew.setCell ⟨b,off,none⟩ (.int .u32 1)).setCell ⟨b,off+1,none⟩ (.int .i32 0):=by
 have hl:=run_call_load (P:=Tryz.prog) Tryz.func119 (by kernel_rfl) (by kernel_rfl) (by kernel_rfl) .u32 (by kernel_rfl) (w:=w.setCell ⟨b,off+1,none⟩ (.int .i32 1)) (a:=⟨b,off,none⟩) (x:=0) ((World.cell?_setCell_other _ ⟨b,off+1,none⟩ ⟨b,off,none⟩ _ (by simp)).trans h0)
 have hnot:∀(x:Bool) (w:World),(Op.unary .not (.bool x)).run Tryz.prog w=.ok (.bool (!x)) w:=fun _ _=>rfl
 go_enter_defers Tryz.func97,Tryz.ntmps97
 go_wp2_with (first|(go_at_call 120;refine(lock_free ⟨b,off+1,none⟩ _ (by go_simp) (by go_simp)).mono ?_;rintro e w' ⟨rfl,rfl⟩)|(go_at_call 69;refine hC.mono ?_;rintro e w' ⟨rfl,hw'⟩)|(go_at_call 96;go_in))
 obtain⟨⟨q0,q1⟩,q2,q3⟩:=hQ w' hw'
 refine leaves_cons (f:=122) (args:=#[.pointer (some ⟨b,off,none⟩),.bool true]) (by simp) (by simp[go_sem]) ?_
 refine(store_deferred ⟨b,off,none⟩ (.int .u32 0) .returning _ q0 q1).mono ?_
 rintro e u' w'' ⟨rfl,rfl,rfl⟩
 refine leaves_cons (f:=121) (args:=#[.pointer (some ⟨b,off+1,none⟩)]) (by simp[settle]) (by simp[go_sem]) ?_
 refine(unlock_deferred ⟨b,off+1,none⟩ _ _ ?_ (by simp[q3])).mono ?_
 ·refine(World.cell?_setCell_other _ ⟨b,off,none⟩ ⟨b,off+1,none⟩ _ (by simp)).trans ?_
  rw[World.cell?_drew]
  exact q2
 rintro e u' w'' ⟨rfl,rfl,rfl⟩
 simp only[Leaves,settle,results,Tryz.results97]
 simp
 exact⟨w',hw',rfl⟩
theorem do_once:Calls Tryz.prog 68 #[.pointer (some ⟨b,off,none⟩),.func (.func 69) #[.pointer (some ⟨b,off,none⟩)] #[]] w fun e w''=>e=.returned (.tuple #[])/\
  ∃w',Q w'/\w''=(w'.drew.setCell ⟨b,off,none⟩ (.int .u32 1)).setCell ⟨b,off+1,none⟩ (.int .i32 0):=by
 have hl:=run_call_load (P:=Tryz.prog) Tryz.func119 (by kernel_rfl) (by kernel_rfl) (by kernel_rfl) .u32 (by kernel_rfl) h0
 have hnot:∀(x:Bool) (w:World),(Op.unary .not (.bool x)).run Tryz.prog w=.ok (.bool (!x)) w:=fun _ _=>rfl
 have hs:=slow_once b off w Q h0 h1 f1 hC hQ
 go_enter Tryz.func68,Tryz.ntmps68
 go_wp2_with (first|(go_at_call 97;refine hs.mono ?_;rintro e w' ⟨rfl,hw'⟩)|(go_at_call 96;go_in))
 go_end0
 exact⟨rfl,hw'⟩
end
theorem once_mut{gl:Gl}{rs rs2:List V}(h:MutG gl Tryz.prog 69 [V.ptr 0 5 0 0] 1 [(0,Ob.arr 131 5 [V.con (.int .u32 0)::V.con (.int .i32 1)::rs])] (resV []) 1 [(0,Ob.arr 131 5 [V.con (.int .u32 0)::V.con (.int .i32 1)::rs2])]):
  MutG gl Tryz.prog 68 [V.ptr 0 5 0 0,V.fn (.func 69) [V.ptr 0 5 0 0] []] 1 [(0,Ob.arr 131 5 [V.con (.int .u32 0)::V.con (.int .i32 0)::rs])] (resV []) 1 [(0,Ob.arr 131 5 [V.con (.int .u32 1)::V.con (.int .i32 0)::rs2])]:=
 mut_once (fun b off w Q h0 h1 f0 f1 hC hQ=>do_once b off w Q h0 h1 f1 hC hQ) h
end Go.Proofs.YtppfkkkifdbnaaaGreatDoor.Qd
