/- Part of the proof. -/
import Derived.Test.YtelmfadihfcgnaaGreatDoorFD7T
set_option linter.unusedSimpArgs false
set_option linter.unusedVariables false
namespace Go.Proofs.YtelmfadihfcgnaaGreatDoor
open Go Go.Pv
set_option maxRecDepth 100000
noncomputable section
abbrev gN:=List (ac×Bool)
abbrev eK:=List (B8×(List ac))
abbrev ff:=List (B8×(Option ai))
abbrev iu:=List ac
abbrev iG:=List (B8×ac)
abbrev cW:=List ah
abbrev ko:=List (B8×Bool)
abbrev br:=List B8
abbrev bx:=List Int
abbrev cM:=List aR
theorem Yc{n:Nat}{σ:Nat->Nat}{x:Value}:ap (Ren n σ) (.con x) (.con x):=ap.imm (aN.con _)
theorem Yl{n k:Nat}{σ:Nat->Nat}{x:List (List V)}:ap (Ren n σ) (.lst k x) (.lst k x):=ap.imm (aN.lst _ _)
def RH(F:Nat)(a1:B8):Option Bool:=
 jn (fun(b3:Bool)=>if b3=true then some true
 else some false) (fun k2=>if (a1==([114,117,108,101]:B8))=true then k2 (a1==([114,117,108,101]:B8))
 else if (a1==([97,98,111,117,116]:B8))=true then k2 (a1==([97,98,111,117,116]:B8))
 else if (a1==([119,104,101,110]:B8))=true then k2 (a1==([119,104,101,110]:B8))
 else if (a1==([119,97,105,118,101]:B8))=true then k2 (a1==([119,97,105,118,101]:B8))
 else if (a1==([102,111,114]:B8))=true then k2 (a1==([102,111,114]:B8))
 else if (a1==([102,114,111,109]:B8))=true then k2 (a1==([102,114,111,109]:B8))
 else if (a1==([116,111]:B8))=true then k2 (a1==([116,111]:B8))
 else if (a1==([98,121]:B8))=true then k2 (a1==([98,121]:B8))
 else if (a1==([97,115]:B8))=true then k2 (a1==([97,115]:B8))
 else if (a1==([112,97,115,115]:B8))=true then k2 (a1==([112,97,115,115]:B8))
 else if (a1==([110,111,116,101]:B8))=true then k2 (a1==([110,111,116,101]:B8))
 else if (a1==([119,97,114,110]:B8))=true then k2 (a1==([119,97,114,110]:B8))
 else if (a1==([100,101,110,121]:B8))=true then k2 (a1==([100,101,110,121]:B8))
 else if (a1==([111,114]:B8))=true then k2 (a1==([111,114]:B8))
 else if (a1==([97,110,100]:B8))=true then k2 (a1==([97,110,100]:B8))
 else if (a1==([116,114,117,101]:B8))=true then k2 (a1==([116,114,117,101]:B8))
 else if (a1==([105,115]:B8))=true then k2 (a1==([105,115]:B8))
 else if (a1==([98,101,103,105,110,115]:B8))=true then k2 (a1==([98,101,103,105,110,115]:B8))
 else if (a1==([104,97,115]:B8))=true then k2 (a1==([104,97,115]:B8))
 else k2 (a1==([110,111,116]:B8)))
def lS(F:Nat)(a1:B8)(k2:Option Bool):Nat->Int->Option Bool
  |0,n4=>k2
  |tl1+1,n4=>jn (lS F a1 k2 tl1 (n4+1)) (fun k6=>(cH a1 n4).bind fun c7=>if (decide ((c7.toNat:Int)>=97))=true then if (decide ((c7.toNat:Int)<=122))=true then k6
 else if (decide (n4>0))=true then if (decide ((c7.toNat:Int)>=48))=true then if (decide ((c7.toNat:Int)<=57))=true then k6
 else if (!((c7.toNat:Int)==45))=true then some false
 else k6
 else if (!((c7.toNat:Int)==45))=true then some false
 else k6
 else some false
 else if (decide (n4>0))=true then if (decide ((c7.toNat:Int)>=48))=true then if (decide ((c7.toNat:Int)<=57))=true then k6
 else if (!((c7.toNat:Int)==45))=true then some false
 else k6
 else if (!((c7.toNat:Int)==45))=true then some false
 else k6
 else some false)
def Fy(F:Nat)(a1:B8):Option Bool:=
 jn (if (!(a1==([]:B8)))=true then if (decide ((a1.length:Int)<=40))=true then (RH F a1).bind fun y24=>some (!y24)
 else some false
 else some false) (fun k2=>if (a1.length:Int)<=9223372036854775807 then lS F a1 k2 (((a1.length:Int):Int).toNat) 0 else none)
def nt(R86:aH->Int->Option (Int×Int))(F:Nat)(a2:Int)(k4:Int->Int->Option (Int×Int)):cM->Int->Int->Option (Int×Int)
 |[],n10,n11=>k4 n10 n11
 |x14::tl1,n10,n11=>(er ag x14).bind fun y16=>(R86 y16 (bt (a2+1))).bind fun y18=>nt R86 F a2 k4 tl1 (if 61<(bt (n10+(y18.1))) then 61 else (bt (n10+(y18.1)))) (if (y18.2)>n11 then (y18.2) else n11)
def A6(R86:aH->Int->Option (Int×Int))(F:Nat)(a1:aH)(a2:Int):Option (Int×Int):=
 if (decide (a2>12))=true then some (1,a2)
 else jn (fun(n5:Int) (n6:Int)=>some (n5,n6)) (fun k4=>nt R86 F a2 k4 a1.Kids 1 a2)
def M0:Nat->aH->Int->Option (Int×Int)
 |0,_,_=>none
 |F+1,a1,a2=>A6 (M0 F) F a1 a2
def FE(F:Nat):Option (Nat->cf):=
 some (uL (cf.mk false false false 0) [(cf.mk false false false 0),(cf.mk false false false 0),(cf.mk true true false 0),(cf.mk true true false 0),(cf.mk true false false 0),(cf.mk true false true 0),(cf.mk false false false 1),(cf.mk false false false (-1)),(cf.mk false false false (-1))])
def Js(F:Nat)(a1:aH):Option Bool:=
 (FE F).bind fun y2=>if 0<=a1.Kind/\a1.Kind.toNat<9 then if (!(y2 a1.Kind.toNat).name)=true then if (!(a1.Name==([]:B8)))=true then some false
 else if (!(y2 a1.Kind.toNat).texts)=true then if (decide (((a1.Texts.length:Nat):Int)>0))=true then some false
 else if (!(y2 a1.Kind.toNat).number)=true then if (a1.Op != 0)=true then some false
 else if (a1.N != 0)=true then some false
 else if (decide ((y2 a1.Kind.toNat).kids<0))=true then some (decide (((a1.Kids.length:Nat):Int)>=2))
 else some (((a1.Kids.length:Nat):Int)==(y2 a1.Kind.toNat).kids)
 else if (decide ((y2 a1.Kind.toNat).kids<0))=true then some (decide (((a1.Kids.length:Nat):Int)>=2))
 else some (((a1.Kids.length:Nat):Int)==(y2 a1.Kind.toNat).kids)
 else if (!(y2 a1.Kind.toNat).number)=true then if (a1.Op != 0)=true then some false
 else if (a1.N != 0)=true then some false
 else if (decide ((y2 a1.Kind.toNat).kids<0))=true then some (decide (((a1.Kids.length:Nat):Int)>=2))
 else some (((a1.Kids.length:Nat):Int)==(y2 a1.Kind.toNat).kids)
 else if (decide ((y2 a1.Kind.toNat).kids<0))=true then some (decide (((a1.Kids.length:Nat):Int)>=2))
 else some (((a1.Kids.length:Nat):Int)==(y2 a1.Kind.toNat).kids)
 else if (!(y2 a1.Kind.toNat).texts)=true then if (decide (((a1.Texts.length:Nat):Int)>0))=true then some false
 else if (!(y2 a1.Kind.toNat).number)=true then if (a1.Op != 0)=true then some false
 else if (a1.N != 0)=true then some false
 else if (decide ((y2 a1.Kind.toNat).kids<0))=true then some (decide (((a1.Kids.length:Nat):Int)>=2))
 else some (((a1.Kids.length:Nat):Int)==(y2 a1.Kind.toNat).kids)
 else if (decide ((y2 a1.Kind.toNat).kids<0))=true then some (decide (((a1.Kids.length:Nat):Int)>=2))
 else some (((a1.Kids.length:Nat):Int)==(y2 a1.Kind.toNat).kids)
 else if (!(y2 a1.Kind.toNat).number)=true then if (a1.Op != 0)=true then some false
 else if (a1.N != 0)=true then some false
 else if (decide ((y2 a1.Kind.toNat).kids<0))=true then some (decide (((a1.Kids.length:Nat):Int)>=2))
 else some (((a1.Kids.length:Nat):Int)==(y2 a1.Kind.toNat).kids)
 else if (decide ((y2 a1.Kind.toNat).kids<0))=true then some (decide (((a1.Kids.length:Nat):Int)>=2))
 else some (((a1.Kids.length:Nat):Int)==(y2 a1.Kind.toNat).kids) else none
def mc(F:Nat)(a1:B8)(k2:Option Bool):Nat->Int->Option Bool
  |0,n4=>k2
  |tl1+1,n4=>(cH a1 n4).bind fun c6=>if (decide ((c6.toNat:Int)<32))=true then some false
 else (cH a1 n4).bind fun c9=>if (decide ((c9.toNat:Int)>126))=true then some false
 else mc F a1 k2 tl1 (n4+1)
def Bh(F:Nat)(a1:B8):Option Bool:=
 jn (some (decide ((a1.length:Int)<=1000))) (fun k2=>if (a1.length:Int)<=9223372036854775807 then mc F a1 k2 (((a1.length:Int):Int).toNat) 0 else none)
def lY(F:Nat)(a1:br)(k4:Option Int):br->Int->Option Int
  |[],n6=>k4
  |x8::tl1,n6=>(Bh F x8).bind fun y10=>jn (lY F a1 k4 tl1 (n6+1)) (fun k12=>if (!y10)=true then some 2
 else if (decide (n6>0))=true then (cH a1 (bt (n6 - 1))).bind fun x15=>if (Op.bytesLess x8 x15||x8==x15)=true then some 10
 else k12
 else k12)
def Jr(F:Nat)(a1:br):Option Int:=
 if (((a1.length:Nat):Int)==0)=true then some 13
 else if (decide (((a1.length:Nat):Int)>50))=true then some 3
 else jn (some 0) (fun k4=>lY F a1 k4 a1 0)
def vk(F:Nat)(a1:Int):Option Bool:=
 if (decide (a1>=(-1000000000000)))=true then some (decide (a1<=1000000000000))
 else some false
def kr(R87:aH->Option Int)(F:Nat)(k27:Option Int):cM->Option Int
  |[]=>k27
  |x31::tl1=>(er ag x31).bind fun y33=>(R87 y33).bind fun y35=>if (y35 != 0)=true then some y35
 else kr R87 F k27 tl1
def r5(R87:aH->Option Int)(F:Nat)(a1:aH):Option Int:=
 if (decide (a1.Kind<1))=true then some 7
 else if (decide (a1.Kind>8))=true then some 7
 else (FE F).bind fun y4=>if 0<=a1.Kind/\a1.Kind.toNat<9 then (Js F a1).bind fun y7=>jn (jn (jn (jn (some 0) (fun k27=>kr R87 F k27 a1.Kids)) (fun k20=>if (y4 a1.Kind.toNat).number=true then if (decide (a1.Op<1))=true then some 7
 else if (decide (a1.Op>5))=true then some 7
 else (vk F a1.N).bind fun y24=>if (!y24)=true then some 9
 else k20
 else k20)) (fun k15=>if (y4 a1.Kind.toNat).texts=true then (Jr F a1.Texts).bind fun y17=>if (y17 != 0)=true then some y17
 else k15
 else k15)) (fun k9=>if (!y7)=true then some 2
 else if (y4 a1.Kind.toNat).name=true then (Fy F a1.Name).bind fun y12=>if (!y12)=true then some 8
 else k9
 else k9) else none
def MZ:Nat->aH->Option Int
 |0,_=>none
 |F+1,a1=>r5 (MZ F) F a1
def P4(F:Nat)(a1:aH):Option Int:=
 (M0 F a1 1).bind fun y2=>if (decide ((y2.1)>60))=true then some 3
 else if (decide ((y2.2)>12))=true then some 3
 else (MZ F a1).bind fun y6=>some y6
def LL(F:Nat)(a1:B8)(a2:Int):Option Int:=some (Lib.indexByte a1 a2.toNat.toUInt8)
def PE(F:Nat)(a1:aC)(a2:B8)(a3:B8)(a4:Int)(a5:Int)(a6:B8)(a7:Int):Option Bool:=
 some (a1.Name==a2)
def lX(F:Nat)(a2:B8)(a3:B8)(a4:Int)(a5:Int)(a6:B8)(a7:Int)(k8:Option Int):List aC->Int->Option Int
  |[],n10=>k8
  |x12::tl1,n10=>(PE F x12 a2 a3 a4 a5 a6 a7).bind fun y14=>if y14=true then some n10
 else lX F a2 a3 a4 a5 a6 a7 k8 tl1 (n10+1)
def LJ(F:Nat)(a1:(List aC))(a2:B8)(a3:B8)(a4:Int)(a5:Int)(a6:B8)(a7:Int):Option Int:=
 jn (some (-1)) (fun k8=>lX F a2 a3 a4 a5 a6 a7 k8 a1 0)
def Jp(F:Nat)(a1:(List aC))(a2:B8)(a3:B8)(a4:Int)(a5:Int)(a6:B8)(a7:Int):Option Bool:=
 (LJ F a1 a2 a3 a4 a5 a6 a7).bind fun y8=>some (decide (y8>=0))
def Jz(F:Nat)(a1:aw)(a2:bN):Option Int:=
 (LL F a2.Subject 42).bind fun y3=>(Jp F a1.Rules a2.Rule a2.Subject a2.From a2.To a2.Owner a2.Level).bind fun y5=>jn (some 0) (fun k7=>if (!y5)=true then some 4
 else (Bh F a2.Subject).bind fun y9=>if (!y9)=true then some 2
 else if (decide (y3>=0))=true then if (decide (y3<(bt ((a2.Subject.length:Int) - 1))))=true then some 2
 else if (decide (a2.From<0))=true then some 9
 else if (decide (a2.From>a2.To))=true then some 9
 else if (decide (a2.To>1000000))=true then some 9
 else (Fy F a2.Owner).bind fun y17=>if (!y17)=true then some 8
 else if (decide (a2.Level<1))=true then some 7
 else if (decide (a2.Level>3))=true then some 7
 else k7
 else if (decide (a2.From<0))=true then some 9
 else if (decide (a2.From>a2.To))=true then some 9
 else if (decide (a2.To>1000000))=true then some 9
 else (Fy F a2.Owner).bind fun y25=>if (!y25)=true then some 8
 else if (decide (a2.Level<1))=true then some 7
 else if (decide (a2.Level>3))=true then some 7
 else k7)
def pw(F:Nat)(a1:aw)(k25:Option Int):List bN->Option Int
  |[]=>k25
  |x29::tl2=>(Jz F a1 x29).bind fun y31=>if (y31 != 0)=true then some y31
 else pw F a1 k25 tl2
def nL(F:Nat)(k4:Option Int):List aC->ko->Option Int
  |[],m8=>k4
  |x10::tl1,m8=>(Fy F x10.Name).bind fun y12=>if (!y12)=true then some 8
 else if ((aY m8 x10.Name).getD false)=true then some 5
 else (Fy F x10.About).bind fun y16=>if (!y16)=true then some 8
 else (P4 F x10.When).bind fun y19=>if (y19 != 0)=true then some y19
 else if (decide (x10.Level<1))=true then some 7
 else if (decide (x10.Level>4))=true then some 7
 else nL F k4 tl1 (cK m8 x10.Name true)
def O9(F:Nat)(a1:aw):Option Int:=
 if (decide (((a1.Rules.length:Nat):Int)>100))=true then some 3
 else if (decide (((a1.Waivers.length:Nat):Int)>200))=true then some 3
 else jn (jn (some 0) (fun k25=>pw F a1 k25 a1.Waivers)) (fun k4=>nL F k4 a1.Rules ([]:ko))
def nJ(F:Nat)(a2:B8)(k3:bx->Option bx):List aC->Int->bx->Option bx
  |[],n7,l8=>k3 l8
  |x10::tl1,n7,l8=>jn (fun(l13:bx)=>nJ F a2 k3 tl1 (n7+1) l13) (fun k12=>if (x10.About==a2)=true then if (l8++([n7]:bx)).length*8<=140737488355328 then k12 (l8++([n7]:bx)) else none
 else k12 l8)
def RP(F:Nat)(a1:aw)(a2:B8):Option bx:=
 jn (fun(l4:bx)=>some l4) (fun k3=>nJ F a2 k3 a1.Rules 0 ([]:bx))
def nR(R32:aH->Option KV)(F:Nat)(k2:(List KV)->Option KV):cM->(List KV)->Option KV
 |[],l7=>k2 l7
 |x9::tl1,l7=>(er ag x9).bind fun y11=>(R32 y11).bind fun y13=>if (l7++([y13]:List KV)).length*16<=140737488355328 then nR R32 F k2 tl1 (l7++([y13]:List KV)) else none
def A9(R32:aH->Option KV)(F:Nat)(a1:aH):Option KV:=
 jn (fun(l3:List KV)=>if (a1.Kind==2)=true then some (vm 147 ci (dD.mk a1.Name a1.Texts))
 else if (a1.Kind==3)=true then some (vm 148 bL (cT.mk a1.Name a1.Texts))
 else if (a1.Kind==4)=true then some (vm 150 cj (dp.mk a1.Name))
 else if (a1.Kind==5)=true then some (vm 152 bK (cS.mk a1.Name a1.Op a1.N))
 else if (a1.Kind==6)=true then (cH l3 0).bind fun x22=>some (vm 154 cz (dn.mk x22))
 else if (a1.Kind==7)=true then some (vm 156 cn (dt.mk l3))
 else if (a1.Kind==8)=true then some (vm 157 cm (dq.mk l3))
 else some (vm 159 cC de.mk)) (fun k2=>nR R32 F k2 a1.Kids ([]:List KV))
def Ln:Nat->aH->Option KV
 |0,_=>none
 |F+1,a1=>A9 (Ln F) F a1
def I5(F:Nat)(a1:B8)(a2:ff):Option (ff×ai):=match aY a2 a1 with
 |none=>some (cK a2 a1 (some (ai.mk [] [] [] false false false 2)),(ai.mk [] [] [] false false false 2))
 |some none=>none
 |some (some s)=>some (a2,s)
def iK(R33:KV->ff->Option ff)(F:Nat)(k93:ff->Option ff):List KV->ff->Option ff
 |[],m98=>k93 m98
 |x100::tl1,m98=>(R33 x100 m98).bind fun y102=>iK R33 F k93 tl1 y102
def mr(R33:KV->ff->Option ff)(F:Nat)(a1:KV)(a2:ff):Option ff:=
 if Nat.beq a1.t 147=true then (iw ci 147 a1).bind fun y63=>(I5 F y63.name a2).bind fun y65=>if ((y65.2).is++y63.texts).length*16<=140737488355328 then some (cK (y65.1) y63.name (some (ai.mk ((y65.2).is++y63.texts) (y65.2).begins (y65.2).numbers true (y65.2).asNo (y65.2).has (bt ((y65.2).weight+((y63.texts.length:Nat):Int)))))) else none
 else if Nat.beq a1.t 148=true then (iw bL 148 a1).bind fun y69=>(I5 F y69.name a2).bind fun y71=>if ((y71.2).begins++y69.texts).length*16<=140737488355328 then some (cK (y71.1) y69.name (some (ai.mk (y71.2).is ((y71.2).begins++y69.texts) (y71.2).numbers true (y71.2).asNo (y71.2).has (bt ((y71.2).weight+(bt (2*((y69.texts.length:Nat):Int)))))))) else none
 else if Nat.beq a1.t 150=true then (iw cj 150 a1).bind fun y75=>(I5 F y75.name a2).bind fun y77=>some (cK (y77.1) y75.name (some (ai.mk (y77.2).is (y77.2).begins (y77.2).numbers (y77.2).asText (y77.2).asNo true (y77.2).weight)))
 else if Nat.beq a1.t 152=true then (iw bK 152 a1).bind fun y80=>(I5 F y80.name a2).bind fun y82=>if ((y82.2).numbers++([y80.n]:bx)).length*8<=140737488355328 then some (cK (y82.1) y80.name (some (ai.mk (y82.2).is (y82.2).begins ((y82.2).numbers++([y80.n]:bx)) (y82.2).asText true (y82.2).has (bt ((y82.2).weight+2))))) else none
 else if Nat.beq a1.t 154=true then (iw cz 154 a1).bind fun y86=>(R33 y86.kid a2).bind fun y88=>some y88
 else if Nat.beq a1.t 156=true then (iw cn 156 a1).bind fun y91=>jn (fun(m94:ff)=>some m94) (fun k93=>iK R33 F k93 y91.kids a2)
 else if Nat.beq a1.t 157=true then (iw cm 157 a1).bind fun y106=>jn (fun(m109:ff)=>some m109) (fun k108=>iK R33 F k108 y106.kids a2)
 else some a2
def JM:Nat->KV->ff->Option ff
 |0,_,_=>none
 |F+1,a1,a2=>mr (JM F) F a1 a2
def nI(F:Nat)(a1:aw)(k26:ff->(List KV)->Option (ff×(List KV))):bx->ff->(List KV)->Option (ff×(List KV))
 |[],m33,l34=>k26 m33 l34
 |x36::tl1,m33,l34=>(cH a1.Rules x36).bind fun x38=>(Ln F x38.When).bind fun y40=>(JM F y40 m33).bind fun y42=>if (l34++([y40]:List KV)).length*16<=140737488355328 then nI F a1 k26 tl1 y42 (l34++([y40]:List KV)) else none
def Sf(F:Nat)(a1:aw)(a2:bx)(a3:ff):Option (ff×(List KV)):=
 jn (fun(m27:ff) (l28:List KV)=>some (m27,l28)) (fun k26=>nI F a1 k26 a2 a3 ([]:List KV))
def nz(F:Nat)(a1:aw)(k28:bx->Option (ff×(List KV)×bx)):bx->bx->Option (ff×(List KV)×bx)
 |[],l33=>k28 l33
 |x35::tl1,l33=>(cH a1.Rules x35).bind fun x37=>if (l33++([x37.Level]:bx)).length*8<=140737488355328 then nz F a1 k28 tl1 (l33++([x37.Level]:bx)) else none
def PW(F:Nat)(a1:aw)(a2:B8)(a3:ff):Option (ff×(List KV)×bx):=
 (RP F a1 a2).bind fun y24=>(Sf F a1 y24 a3).bind fun y26=>jn (fun(l29:bx)=>some ((y26.1),(y26.2),l29)) (fun k28=>nz F a1 k28 y24 ([]:bx))
def gx(F:Nat):ff->Int->Option Bool
  |[],n4=>some true
  |e6::l7,n4=>if (1<=n4/\n4<=200000)/\((e6::l7).all fun p=>match p.2 with|some s=>decide (1<=s.weight/\s.weight<=1000000000000)|none=>false)=true then (e6.2).bind fun x9=>if x9.has=true then if (decide ((bt (n4*(bt (x9.weight+1))))>200000))=true then some false
 else gx F l7 (bt (n4*(bt (x9.weight+1))))
 else if x9.asText=true then jn (fun(n15:Int)=>if (decide ((bt (n4*n15))>200000))=true then some false
 else gx F l7 (bt (n4*n15))) (fun k14=>if x9.asNo=true then k14 (bt (x9.weight+1))
 else k14 x9.weight)
 else if (decide ((bt (n4*x9.weight))>200000))=true then some false
 else gx F l7 (bt (n4*x9.weight)) else none
def P3(F:Nat)(a1:ff):Option Bool:=
 gx F a1 1
def Se(F:Nat)(a1:bx):Option bx:=if a1.length<4611686018427387904 then some (wC a1) else none
def LD(F:Nat)(a1:bx):Option bx:=if a1.length<=140737488355328 then some (Dy a1) else none
def gA(F:Nat)(x11:Int)(k13:bx->Option bx):Nat->Int->bx->Option bx
  |0,n17,l18=>k13 l18
  |tl2+1,n17,l18=>(cH ([(bt (x11 - 1)),x11,(bt (x11+1))]:bx) n17).bind fun x20=>(vk F x20).bind fun y22=>jn (fun(l25:bx)=>gA F x11 k13 tl2 (n17+1) l25) (fun k24=>if y22=true then if (l18++([x20]:bx)).length*8<=140737488355328 then k24 (l18++([x20]:bx)) else none
 else k24 l18)
def i6(F:Nat)(k2:bx->Option bx):bx->bx->Option bx
 |[],l7=>k2 l7
 |x11::tl1,l7=>jn (fun(l10:bx)=>i6 F k2 tl1 l10) (fun k9=>jn (fun(l14:bx)=>k9 l14) (fun k13=>if ((3:Nat):Int)<=9223372036854775807 then gA F x11 k13 ((((3:Nat):Int):Int).toNat) 0 l7 else none))
def Be(F:Nat)(a1:ai):Option bx:=
 jn (fun(l3:bx)=>(Se F l3).bind fun y30=>if y30.length=l3.length then (LD F y30).bind fun y33=>some y33 else none) (fun k2=>i6 F k2 a1.numbers ([0]:bx))
def RT(F:Nat)(a1:br):Option br:=
 Hu a1.length (fun b7=>if b7=true then some ([]:br)
 else if (([]:br)++a1).length*16<=140737488355328 then some (([]:br)++a1) else none)
def l0(F:Nat)(a2:B8)(k3:Option Int):br->Int->Option Int
  |[],n5=>k3
  |x7::tl1,n5=>if (a2==x7)=true then some n5
 else l0 F a2 k3 tl1 (n5+1)
def L8(F:Nat)(a1:br)(a2:B8):Option Int:=
 jn (some (-1)) (fun k3=>l0 F a2 k3 a1 0)
def M1(F:Nat)(a1:br)(a2:B8):Option Bool:=
 (L8 F a1 a2).bind fun y3=>some (decide (y3>=0))
def Jk(F:Nat)(a1:B8)(a2:B8):Option Bool:=
 if (decide ((a1.length:Int)>=(a2.length:Int)))=true then if 0<=(a2.length:Int)/\(a2.length:Int).toNat<=a1.length then some ((a1.take (a2.length:Int).toNat)==a2) else none
 else some false
def CE(F:Nat)(a1:B8)(a2:B8):Option Bool:=
 (Jk F a1 a2).bind fun y3=>some y3
def Lu(F:Nat)(a1:B8)(a2:Int)(a3:B8):Option Bool:=
 if (decide ((a1.length:Int)>a2))=true then (CE F a3 a1).bind fun y5=>some y5
 else some false
def lU(F:Nat)(a2:Int)(a3:B8)(k4:Option Int):br->Int->Option Int
  |[],n6=>k4
  |x8::tl1,n6=>(Lu F x8 a2 a3).bind fun y10=>if y10=true then some n6
 else lU F a2 a3 k4 tl1 (n6+1)
def Lt(F:Nat)(a1:br)(a2:Int)(a3:B8):Option Int:=
 jn (some (-1)) (fun k4=>lU F a2 a3 k4 a1 0)
def Lv(F:Nat)(a1:br)(a2:Int)(a3:B8):Option Bool:=
 (Lt F a1 a2 a3).bind fun y4=>some (decide (y4>=0))
def Ji(F:Nat)(a1:B8)(a2:br)(a3:Int):Option Bool:=
 (Lv F a2 a3 a1).bind fun y4=>some y4
def jV(F:Nat)(a1:B8)(a2:br)(a3:br)(x12:B8)(k18:br->Option (B8×Bool)):Nat->Int->br->Option (B8×Bool)
 |0,_,_=>none
 |n+1,n22,l23=>if (decide (n22<=126))=true then jn (fun(l26:br)=>jV F a1 a2 a3 x12 k18 n (IntKind.wrap .u8 (n22+1)) l26) (fun k25=>if x12.length+(Utf8.encode (IntKind.wrap .i32 n22)).data.toList.length<=9223372036854775807 then (Ji F (x12++(Utf8.encode (IntKind.wrap .i32 n22)).data.toList) a2 (a1.length:Int)).bind fun y28=>if y28=true then k25 l23
 else (M1 F a3 (x12++(Utf8.encode (IntKind.wrap .i32 n22)).data.toList)).bind fun y31=>if (!y31)=true then some ((x12++(Utf8.encode (IntKind.wrap .i32 n22)).data.toList),true)
 else if (l23++([(x12++(Utf8.encode (IntKind.wrap .i32 n22)).data.toList)]:br)).length*16<=140737488355328 then k25 (l23++([(x12++(Utf8.encode (IntKind.wrap .i32 n22)).data.toList)]:br)) else none else none)
 else k18 l23
def iY(F:Nat)(a1:B8)(a2:br)(a3:br)(k4:Option (B8×Bool)):Nat->Int->br->Option (B8×Bool)
 |0,_,_=>none
 |n+1,n7,l8=>if (decide (n7<((l8.length:Nat):Int)))=true then jn (fun(l11:br)=>iY F a1 a2 a3 k4 n (bt (n7+1)) l11) (fun k10=>(cH l8 n7).bind fun x12=>(M1 F a3 x12).bind fun y14=>if (!y14)=true then some (x12,true)
 else if ((x12.length:Int)==1000)=true then k10 l8
 else jn (fun(l19:br)=>k10 l19) (fun k18=>jV F a1 a2 a3 x12 k18 F 32 l8))
 else k4
def Jl(F:Nat)(a1:B8)(a2:br)(a3:br):Option (B8×Bool):=
 jn (some (([]:B8),false)) (fun k4=>iY F a1 a2 a3 k4 F 0 ([a1]:br))
def FG(F:Nat)(a1:br):Option br:=if a1.length<4611686018427387904 then some (eA a1) else none
def Fz(F:Nat)(a1:br):Option br:=if a1.length<=140737488355328 then some (Dy a1) else none
def i5(F:Nat)(a1:ai)(k10:br->Option br):br->br->Option br
  |[],l15=>k10 l15
  |x17::tl1,l15=>(Jl F x17 a1.begins a1.is).bind fun y19=>jn (fun(l22:br)=>i5 F a1 k10 tl1 l22) (fun k21=>if (y19.2)=true then if (l15++([(y19.1)]:br)).length*16<=140737488355328 then k21 (l15++([(y19.1)]:br)) else none
 else k21 l15)
def sG(F:Nat)(a1:ai):Option br:=
 (RT F a1.is).bind fun y2=>(M1 F a1.begins ([]:B8)).bind fun y4=>jn (fun(l7:br)=>jn (fun(l11:br)=>(FG F l11).bind fun y26=>if y26.length=l11.length then (Fz F y26).bind fun y29=>some y29 else none) (fun k10=>i5 F a1 k10 l7 y2)) (fun k6=>if (!y4)=true then if (([([]:B8)]:br)++a1.begins).length*16<=140737488355328 then k6 (([([]:B8)]:br)++a1.begins) else none
 else k6 a1.begins)
def jx(R0:(gN×eK)->ac->Option (gN×eK))(F:Nat)(x51:B8)(k53:gN->eK->Option (gN×eK)):iu->gN->eK->Option (gN×eK)
 |[],m60,m61=>k53 m60 m61
 |x63::tl4,m60,m61=>(R0 (m60,m61) (ac.mk true x63.hasNumber x51 x63.number)).bind fun y65=>jx R0 F x51 k53 tl4 (y65.1) (y65.2)
def fA(R0:(gN×eK)->ac->Option (gN×eK))(F:Nat)(l12:iu):br->gN->eK->Option (gN×eK)
 |[],m45,m46=>some (m45,m46)
 |x51::tl3,m45,m46=>jn (fun(m49:gN) (m50:eK)=>fA R0 F l12 tl3 m49 m50) (fun k48=>jn (fun(m54:gN) (m55:eK)=>k48 m54 m55) (fun k53=>jx R0 F x51 k53 l12 m45 m46))
def gP(R0:(gN×eK)->ac->Option (gN×eK))(F:Nat)(k22:gN->eK->Option (gN×eK)):iu->gN->eK->Option (gN×eK)
 |[],m29,m30=>k22 m29 m30
 |x32::tl2,m29,m30=>(R0 (m29,m30) x32).bind fun y34=>gP R0 F k22 tl2 (y34.1) (y34.2)
def iI(F:Nat)(k11:iu->Option (gN×eK)):bx->iu->Option (gN×eK)
 |[],l16=>k11 l16
 |x18::tl1,l16=>if (l16++([(ac.mk false true ([]:B8) x18)]:iu)).length*32<=140737488355328 then iI F k11 tl1 (l16++([(ac.mk false true ([]:B8) x18)]:iu)) else none
def RF(R0:(gN×eK)->ac->Option (gN×eK))(F:Nat)(a1:br)(a2:br)(a3:bx)(a4:Bool)(a5:Bool)(a6:Bool)(a7:Int)(q0:gN)(q1:eK):Option (gN×eK):=
 if a5=true then (Be F (ai.mk a1 a2 a3 a4 a5 a6 a7)).bind fun y9=>jn (fun(l12:iu)=>jn (fun(m23:gN) (m24:eK)=>if (!a4)=true then if (!a6)=true then some (m23,m24)
 else (sG F (ai.mk a1 a2 a3 a4 a5 a6 a7)).bind fun y39=>fA R0 F l12 y39 m23 m24
 else (sG F (ai.mk a1 a2 a3 a4 a5 a6 a7)).bind fun y69=>fA R0 F l12 y69 m23 m24) (fun k22=>gP R0 F k22 l12 q0 q1)) (fun k11=>iI F k11 y9 ([(ac.mk false false ([]:B8) 0)]:iu))
 else jn (fun(l100:iu)=>jn (fun(m116:gN) (m117:eK)=>if (!a4)=true then if (!a6)=true then some (m116,m117)
 else (sG F (ai.mk a1 a2 a3 a4 a5 a6 a7)).bind fun y132=>fA R0 F l100 y132 m116 m117
 else (sG F (ai.mk a1 a2 a3 a4 a5 a6 a7)).bind fun y162=>fA R0 F l100 y162 m116 m117) (fun k115=>gP R0 F k115 l100 q0 q1)) (fun k99=>if a6=true then (Be F (ai.mk a1 a2 a3 a4 a5 a6 a7)).bind fun y102=>jn (fun(l105:iu)=>k99 l105) (fun k104=>iI F k104 y102 ([(ac.mk false false ([]:B8) 0)]:iu))
 else k99 ([(ac.mk false false ([]:B8) 0)]:iu))
def lQ(F:Nat)(x50:B8)(m58:gN)(m59:eK)(v55:ac):Option (gN×eK):=
 jn (fun(m61:gN) (m62:eK)=>some (m61,m62)) (fun k60=>if (!((aY m58 v55).getD false))=true then if (((aY m59 x50).getD [])++([v55]:iu)).length*32<=140737488355328 then k60 (cK m58 v55 true) (cK m59 x50 (((aY m59 x50).getD [])++([v55]:iu))) else none
 else k60 m58 m59)
def nQ(F:Nat)(a1:ff)(k40:br->eK->Option (eK×br)):br->br->eK->Option (eK×br)
 |[],l47,m48=>k40 l47 m48
 |x50::tl1,l47,m48=>if (l47++([x50]:br)).length*16<=140737488355328 then (((aY a1 x50).getD (none:Option ai))).bind fun x53=>(RF (fun p x=>lQ F x50 p.1 p.2 x) F x53.is x53.begins x53.numbers x53.asText x53.asNo x53.has x53.weight ([]:gN) m48).bind fun y65=>nQ F a1 k40 tl1 (l47++([x50]:br)) (y65.2) else none
def Pn(F:Nat)(a1:ff)(a2:List KV)(a3:bx)(a4:List KV)(a5:bx):Option (eK×br):=
 (rJ a1).bind fun l38=>jn (fun(l41:br) (m42:eK)=>some (m42,l41)) (fun k40=>nQ F a1 k40 l38 ([]:br) ([]:eK))
def Bb(F:Nat)(a1:aq)(a2:B8):Option (ac×Bool):=
 if a1.known.isNone=true then some (((aY a1.by_ a2).getD (ac.mk false false ([]:B8) 0)),true)
 else some (((aY a1.by_ a2).getD (ac.mk false false ([]:B8) 0)),((aY (a1.known.getD []) a2).getD false))
def Fv(F:Nat)(a1:Bool):Option Int:=
 if a1=true then some 1
 else some 2
def CA(F:Nat)(a1:dD)(a2:aq):Option Int:=
 (Bb F a2 a1.name).bind fun y3=>if (!(y3.2))=true then some 0
 else if (y3.1).hasText=true then (M1 F a1.texts (y3.1).text).bind fun y7=>(Fv F y7).bind fun y9=>some y9
 else (Fv F false).bind fun y11=>some y11
def Lq(F:Nat)(a1:B8)(a2:Bool)(a3:Bool)(a4:B8)(a5:Int):Option Bool:=
 (CE F a4 a1).bind fun y6=>some y6
def gR(F:Nat)(a2:Bool)(a3:Bool)(a4:B8)(a5:Int)(k6:Option Int):br->Int->Option Int
  |[],n8=>k6
  |x10::tl1,n8=>(Lq F x10 a2 a3 a4 a5).bind fun y12=>if y12=true then some n8
 else gR F a2 a3 a4 a5 k6 tl1 (n8+1)
def yX(F:Nat)(a1:br)(a2:Bool)(a3:Bool)(a4:B8)(a5:Int):Option Int:=
 jn (some (-1)) (fun k6=>gR F a2 a3 a4 a5 k6 a1 0)
def u5(F:Nat)(a1:br)(a2:Bool)(a3:Bool)(a4:B8)(a5:Int):Option Bool:=
 (yX F a1 a2 a3 a4 a5).bind fun y6=>some (decide (y6>=0))
def Cz(F:Nat)(a1:cT)(a2:aq):Option Int:=
 (Bb F a2 a1.name).bind fun y3=>if (!(y3.2))=true then some 0
 else if (y3.1).hasText=true then (u5 F a1.texts (y3.1).hasText (y3.1).hasNumber (y3.1).text (y3.1).number).bind fun y7=>(Fv F y7).bind fun y9=>some y9
 else (Fv F false).bind fun y11=>some y11
def Cy(F:Nat)(a1:dp)(a2:aq):Option Int:=
 (Bb F a2 a1.name).bind fun y3=>if (!(y3.2))=true then some 0
 else if (y3.1).hasText=true then (Fv F true).bind fun y7=>some y7
 else (Fv F (y3.1).hasNumber).bind fun y9=>some y9
def Jh(F:Nat)(a1:Int)(a2:Int)(a3:Int):Option Bool:=
 if (a2==1)=true then some (decide (a1<a3))
 else if (a2==2)=true then some (decide (a1<=a3))
 else if (a2==3)=true then some (a1==a3)
 else if (a2==4)=true then some (decide (a1>=a3))
 else some (decide (a1>a3))
def Cx(F:Nat)(a1:cS)(a2:aq):Option Int:=
 (Bb F a2 a1.name).bind fun y3=>if (!(y3.2))=true then some 0
 else if (y3.1).hasNumber=true then (Jh F (y3.1).number a1.op a1.n).bind fun y7=>(Fv F y7).bind fun y9=>some y9
 else (Fv F false).bind fun y11=>some y11
def TW(F:Nat)(a1:Int):Option Int:=
 if (a1==1)=true then some 2
 else if (a1==2)=true then some 1
 else some 0
def Cw(Riholds:KV->aq->Option Int)(F:Nat)(a1:dn)(a2:aq):Option Int:=
 (Riholds a1.kid a2).bind fun y3=>(TW F y3).bind fun y5=>some y5
def gz(Riholds:KV->aq->Option Int)(F:Nat)(a2:aq)(k3:Int->Option Int):List KV->Int->Option Int
  |[],n7=>k3 n7
  |x10::tl1,n7=>(Riholds x10 a2).bind fun y12=>jn (fun(n15:Int)=>gz Riholds F a2 k3 tl1 n15) (fun k14=>if (y12==2)=true then some 2
 else if (y12==0)=true then k14 0
 else k14 n7)
def Pw(Riholds:KV->aq->Option Int)(F:Nat)(a1:dt)(a2:aq):Option Int:=
 jn (fun(n4:Int)=>some n4) (fun k3=>gz Riholds F a2 k3 a1.kids 1)
def gy(Riholds:KV->aq->Option Int)(F:Nat)(a2:aq)(k3:Int->Option Int):List KV->Int->Option Int
  |[],n7=>k3 n7
  |x10::tl1,n7=>(Riholds x10 a2).bind fun y12=>jn (fun(n15:Int)=>gy Riholds F a2 k3 tl1 n15) (fun k14=>if (y12==1)=true then some 1
 else if (y12==0)=true then k14 0
 else k14 n7)
def Pu(Riholds:KV->aq->Option Int)(F:Nat)(a1:dq)(a2:aq):Option Int:=
 jn (fun(n4:Int)=>some n4) (fun k3=>gy Riholds F a2 k3 a1.kids 2)
def Pt(F:Nat)(a1:de)(a2:aq):Option Int:=
 some 1
def gO(Riholds:KV->aq->Option Int)(F:Nat)(k:KV)(a1:aq):Option Int:=
 Ko (iw ci 147 k) (fun y=>CA F y a1) (Ko (iw bL 148 k) (fun y=>Cz F y a1) (Ko (iw cj 150 k) (fun y=>Cy F y a1) (Ko (iw bK 152 k) (fun y=>Cx F y a1) (Ko (iw cz 154 k) (fun y=>Cw Riholds F y a1) (Ko (iw cn 156 k) (fun y=>Pw Riholds F y a1) (Ko (iw cm 157 k) (fun y=>Pu Riholds F y a1) (Ko (iw cC 159 k) (fun y=>Pt F y a1) (none))))))))
def dP:Nat->KV->aq->Option Int
 |0,_,_=>none
 |F+1,k,a1=>gO (dP F) F k a1
def ny(F:Nat)(a1:cR)(a2:aq)(k3:Option (Int×Bool)):List KV->Int->Option (Int×Bool)
  |[],n5=>k3
  |x7::tl1,n5=>(dP F x7 a2).bind fun y9=>if (y9==1)=true then (cH a1.levels n5).bind fun x12=>some (x12,true)
 else if (y9==0)=true then some (0,false)
 else ny F a1 a2 k3 tl1 (n5+1)
def PV(F:Nat)(a1:cR)(a2:aq):Option (Int×Bool):=
 jn (some (1,true)) (fun k3=>ny F a1 a2 k3 a1.conds 0)
def O3(F:Nat)(a1:aq)(a2:List KV)(a3:bx)(a4:List KV)(a5:bx):Option Int:=
 (PV F (cR.mk a2 a3) a1).bind fun y6=>(PV F (cR.mk a4 a5) a1).bind fun y8=>if (!(y6.2))=true then some 0
 else if (!(y8.2))=true then some 0
 else (Fv F ((y6.1) != (y8.1))).bind fun y12=>some y12
def kw(R36:Int->eK->(List KV)->bx->(List KV)->bx->br->iG->ko->Option (Bool×iG×ko))(F:Nat)(a1:Int)(a2:eK)(a3:List KV)(a4:bx)(a5:List KV)(a6:bx)(a7:br)(x41:B8)(k43:iG->ko->Option (Bool×iG×ko)):iu->iG->ko->Option (Bool×iG×ko)
  |[],m50,m51=>k43 m50 m51
  |x53::tl1,m50,m51=>(R36 (bt (a1+1)) a2 a3 a4 a5 a6 a7 (cK m50 x41 x53) m51).bind fun y55=>if (y55.1)=true then some (true,(y55.2.1),(y55.2.2))
 else kw R36 F a1 a2 a3 a4 a5 a6 a7 x41 k43 tl1 (y55.2.1) (y55.2.2)
def mq(R36:Int->eK->(List KV)->bx->(List KV)->bx->br->iG->ko->Option (Bool×iG×ko))(F:Nat)(a1:Int)(a2:eK)(a3:List KV)(a4:bx)(a5:List KV)(a6:bx)(a7:br)(a8:iG)(a9:ko):Option (Bool×iG×ko):=
 (O3 F (aq.mk a8 (some a9)) a3 a4 a5 a6).bind fun y36=>if (y36==1)=true then some (true,a8,a9)
 else if (y36==2)=true then some (false,a8,a9)
 else if (a1==((a7.length:Nat):Int))=true then some (false,a8,a9)
 else (cH a7 a1).bind fun x41=>jn (fun(m44:iG) (m45:ko)=>some (false,(iP m44 x41),(iP m45 x41))) (fun k43=>kw R36 F a1 a2 a3 a4 a5 a6 a7 x41 k43 ((aY a2 x41).getD ([]:iu)) a8 (cK a9 x41 true))
def zp:Nat->Int->eK->(List KV)->bx->(List KV)->bx->br->iG->ko->Option (Bool×iG×ko)
 |0,_,_,_,_,_,_,_,_,_=>none
 |F+1,a1,a2,a3,a4,a5,a6,a7,a8,a9=>mq (zp F) F a1 a2 a3 a4 a5 a6 a7 a8 a9
def nP(F:Nat)(a3:iG)(k12:(List bu)->(List aL)->Option aW):br->(List bu)->(List aL)->Option aW
  |[],l19,l20=>k12 l19 l20
  |x22::tl1,l19,l20=>jn (fun(l25:List bu)=>jn (fun(l29:List aL)=>nP F a3 k12 tl1 l25 l29) (fun k28=>if ((aY a3 x22).getD (ac.mk false false ([]:B8) 0)).hasNumber=true then if (l20++([(aL.mk x22 ((aY a3 x22).getD (ac.mk false false ([]:B8) 0)).number)]:List aL)).length*24<=140737488355328 then k28 (l20++([(aL.mk x22 ((aY a3 x22).getD (ac.mk false false ([]:B8) 0)).number)]:List aL)) else none
 else k28 l20)) (fun k24=>if ((aY a3 x22).getD (ac.mk false false ([]:B8) 0)).hasText=true then if (l19++([(bu.mk x22 ((aY a3 x22).getD (ac.mk false false ([]:B8) 0)).text)]:List bu)).length*32<=140737488355328 then k24 (l19++([(bu.mk x22 ((aY a3 x22).getD (ac.mk false false ([]:B8) 0)).text)]:List bu)) else none
 else k24 l19)
def P2(F:Nat)(a1:br)(a2:eK)(a3:iG)(a4:ko)(a5:List KV)(a6:bx)(a7:List KV)(a8:bx)(a9:B8):Option aW:=
 (rJ a3).bind fun l10=>jn (fun(l13:List bu) (l14:List aL)=>some (aW.mk a9 ([]:B8) l13 l14)) (fun k12=>nP F a3 k12 l10 ([]:List bu) ([]:List aL))
def FN(F:Nat)(a1:aw)(a2:aw)(a3:B8):Option (aW×Bool×Int):=
 (O9 F a1).bind fun y4=>if (y4 != 0)=true then some ((aW.mk ([]:B8) ([]:B8) ([]:List bu) ([]:List aL)),false,y4)
 else (O9 F a2).bind fun y7=>if (y7 != 0)=true then some ((aW.mk ([]:B8) ([]:B8) ([]:List bu) ([]:List aL)),false,y7)
 else (Fy F a3).bind fun y10=>if (!y10)=true then some ((aW.mk ([]:B8) ([]:B8) ([]:List bu) ([]:List aL)),false,8)
 else jn ((PW F a1 a3 ([]:ff)).bind fun y14=>(PW F a2 a3 (y14.1)).bind fun y16=>jn ((P3 F (y16.1)).bind fun y19=>if (!y19)=true then some ((aW.mk ([]:B8) ([]:B8) ([]:List bu) ([]:List aL)),false,3)
 else jn ((Pn F (y16.1) (y14.2.1) (y14.2.2) (y16.2.1) (y16.2.2)).bind fun y23=>jn ((zp F 0 (y23.1) (y14.2.1) (y14.2.2) (y16.2.1) (y16.2.2) (y23.2) ([]:iG) ([]:ko)).bind fun y26=>if (!(y26.1))=true then some ((aW.mk ([]:B8) ([]:B8) ([]:List bu) ([]:List aL)),false,0)
 else (P2 F (y23.2) (y23.1) (y26.2.1) (y26.2.2) (y14.2.1) (y14.2.2) (y16.2.1) (y16.2.2) a3).bind fun y29=>some (y29,true,0)) (fun k25=>k25)) (fun k22=>k22)) (fun k18=>k18)) (fun k13=>k13)
def np(F:Nat)(a1:B8)(k2:Option Bool):Nat->Int->Option Bool
  |0,n4=>k2
  |tl1+1,n4=>if 0<=n4/\n4.toNat<20 then if (((uL [] [([114,117,108,101]:B8),([97,98,111,117,116]:B8),([119,104,101,110]:B8),([119,97,105,118,101]:B8),([102,111,114]:B8),([102,114,111,109]:B8),([116,111]:B8),([98,121]:B8),([97,115]:B8),([112,97,115,115]:B8),([110,111,116,101]:B8),([119,97,114,110]:B8),([100,101,110,121]:B8),([111,114]:B8),([97,110,100]:B8),([116,114,117,101]:B8),([105,115]:B8),([98,101,103,105,110,115]:B8),([104,97,115]:B8),([110,111,116]:B8)]) n4.toNat)==a1)=true then some true
 else np F a1 k2 tl1 (n4+1) else none
def RE(F:Nat)(a1:B8):Option Bool:=
 jn (some false) (fun k2=>if (20:Int)<=9223372036854775807 then np F a1 k2 ((20:Int).toNat) 0 else none)
def RD(F:Nat)(a1:Int):Option Bool:=
 if (decide (a1>=97))=true then if (decide (a1<=122))=true then some true
 else if (decide (a1>=48))=true then if (decide (a1<=57))=true then some true
 else some (a1==45)
 else some (a1==45)
 else if (decide (a1>=48))=true then if (decide (a1<=57))=true then some true
 else some (a1==45)
 else some (a1==45)
def pz(F:Nat)(a1:B8)(k13:Option Bool):Nat->Int->Option Bool
  |0,n15=>k13
  |tl1+1,n15=>(cH a1 n15).bind fun c17=>(RD F (c17.toNat:Int)).bind fun y19=>if (!y19)=true then some false
 else pz F a1 k13 tl1 (n15+1)
def A8(F:Nat)(a1:B8):Option Bool:=
 if (a1==([]:B8))=true then some false
 else if (decide ((a1.length:Int)>40))=true then some false
 else (cH a1 0).bind fun c4=>if (decide ((c4.toNat:Int)<97))=true then some false
 else (cH a1 0).bind fun c7=>if (decide ((c7.toNat:Int)>122))=true then some false
 else (RE F a1).bind fun y10=>if y10=true then some false
 else jn (some true) (fun k13=>if (a1.length:Int)<=9223372036854775807 then pz F a1 k13 (((a1.length:Int):Int).toNat) 0 else none)
def lW(F:Nat)(a2:B8)(k3:Option Int):List aC->Int->Option Int
  |[],n5=>k3
  |x7::tl1,n5=>if (x7.Name==a2)=true then some n5
 else lW F a2 k3 tl1 (n5+1)
def FD(F:Nat)(a1:(List aC))(a2:B8):Option Int:=
 jn (some (-1)) (fun k3=>lW F a2 k3 a1 0)
def pq(R92:aH->Int->Option Int)(F:Nat)(a1:aH)(a2:Int)(k3:Int->Option Int):Nat->Int->Int->Option Int
 |0,_,_=>none
 |n+1,n7,n8=>if (decide (n8<((a1.Kids.length:Nat):Int)))=true then if (decide (n7<=a2))=true then (cH a1.Kids n8).bind fun x11=>(er ag x11).bind fun y13=>(R92 y13 (bt (a2 - n7))).bind fun y15=>pq R92 F a1 a2 k3 n (bt (n7+y15)) (bt (n8+1))
 else k3 n7
 else k3 n7
def A5(R92:aH->Int->Option Int)(F:Nat)(a1:aH)(a2:Int):Option Int:=
 jn (fun(n4:Int)=>some n4) (fun k3=>pq R92 F a1 a2 k3 F 1 0)
def MY:Nat->aH->Int->Option Int
 |0,_,_=>none
 |F+1,a1,a2=>A5 (MY F) F a1 a2
def nr(R93:aH->Option Int)(F:Nat)(a1:aH)(k2:Int->Option Int):Nat->Int->Int->Option Int
 |0,n7,n6=>k2 n6
 |tl1+1,n7,n6=>(cH a1.Kids n7).bind fun x9=>(er ag x9).bind fun y11=>(R93 y11).bind fun y13=>nr R93 F a1 k2 tl1 (n7+1) (if y13>n6 then y13 else n6)
def A4(R93:aH->Option Int)(F:Nat)(a1:aH):Option Int:=
 jn (fun(n3:Int)=>some (bt (n3+1))) (fun k2=>if ((a1.Kids.length:Nat):Int)<=9223372036854775807 then nr R93 F a1 k2 ((((a1.Kids.length:Nat):Int):Int).toNat) 0 0 else none)
def MX:Nat->aH->Option Int
 |0,_=>none
 |F+1,a1=>A4 (MX F) F a1
def uZ(F:Nat)(a1:Int)(a2:Int)(a3:Int):Option Bool:=
 if (decide (a1<a2))=true then some true
 else some (decide (a1>a3))
def rF(F:Nat)(a1:aH):Option Int:=
 (uZ F a1.Kind 1 8).bind fun y2=>if y2=true then some 7
 else if (decide (a1.Kind>=2))=true then if (a1.Kind==2)=true then jn (fun(b8:Bool)=>if (!(decide (a1.Kind<=5)))=true then if (!(a1.Name==([]:B8)))=true then some 2
 else if (!(a1.Kind==5))=true then if (a1.Op != 0)=true then some 2
 else if (a1.N != 0)=true then some 2
 else if (!b8)=true then some 2
 else some 0
 else if (!b8)=true then some 2
 else some 0
 else if (!(a1.Kind==5))=true then if (a1.Op != 0)=true then some 2
 else if (a1.N != 0)=true then some 2
 else if (!b8)=true then some 2
 else some 0
 else if (!b8)=true then some 2
 else some 0) (fun k7=>if (a1.Kind==6)=true then k7 (((a1.Kids.length:Nat):Int)==1)
 else jn (fun(b11:Bool)=>if b11=true then k7 (decide (((a1.Kids.length:Nat):Int)>=2))
 else k7 (((a1.Kids.length:Nat):Int)==0)) (fun k10=>if (a1.Kind==7)=true then k10 (a1.Kind==7)
 else k10 (a1.Kind==8)))
 else jn (fun(b27:Bool)=>if (!(decide (a1.Kind<=5)))=true then if (!(a1.Name==([]:B8)))=true then some 2
 else if (!(a1.Kind==3))=true then if (decide (((a1.Texts.length:Nat):Int)>0))=true then some 2
 else if (!(a1.Kind==5))=true then if (a1.Op != 0)=true then some 2
 else if (a1.N != 0)=true then some 2
 else if (!b27)=true then some 2
 else some 0
 else if (!b27)=true then some 2
 else some 0
 else if (!(a1.Kind==5))=true then if (a1.Op != 0)=true then some 2
 else if (a1.N != 0)=true then some 2
 else if (!b27)=true then some 2
 else some 0
 else if (!b27)=true then some 2
 else some 0
 else if (!(a1.Kind==3))=true then if (decide (((a1.Texts.length:Nat):Int)>0))=true then some 2
 else if (!(a1.Kind==5))=true then if (a1.Op != 0)=true then some 2
 else if (a1.N != 0)=true then some 2
 else if (!b27)=true then some 2
 else some 0
 else if (!b27)=true then some 2
 else some 0
 else if (!(a1.Kind==5))=true then if (a1.Op != 0)=true then some 2
 else if (a1.N != 0)=true then some 2
 else if (!b27)=true then some 2
 else some 0
 else if (!b27)=true then some 2
 else some 0) (fun k26=>if (a1.Kind==6)=true then k26 (((a1.Kids.length:Nat):Int)==1)
 else jn (fun(b30:Bool)=>if b30=true then k26 (decide (((a1.Kids.length:Nat):Int)>=2))
 else k26 (((a1.Kids.length:Nat):Int)==0)) (fun k29=>if (a1.Kind==7)=true then k29 (a1.Kind==7)
 else k29 (a1.Kind==8)))
 else if (a1.Kind==2)=true then jn (fun(b61:Bool)=>if (!(a1.Name==([]:B8)))=true then some 2
 else if (!(a1.Kind==5))=true then if (a1.Op != 0)=true then some 2
 else if (a1.N != 0)=true then some 2
 else if (!b61)=true then some 2
 else some 0
 else if (!b61)=true then some 2
 else some 0) (fun k60=>if (a1.Kind==6)=true then k60 (((a1.Kids.length:Nat):Int)==1)
 else jn (fun(b64:Bool)=>if b64=true then k60 (decide (((a1.Kids.length:Nat):Int)>=2))
 else k60 (((a1.Kids.length:Nat):Int)==0)) (fun k63=>if (a1.Kind==7)=true then k63 (a1.Kind==7)
 else k63 (a1.Kind==8)))
 else jn (fun(b74:Bool)=>if (!(a1.Name==([]:B8)))=true then some 2
 else if (!(a1.Kind==3))=true then if (decide (((a1.Texts.length:Nat):Int)>0))=true then some 2
 else if (!(a1.Kind==5))=true then if (a1.Op != 0)=true then some 2
 else if (a1.N != 0)=true then some 2
 else if (!b74)=true then some 2
 else some 0
 else if (!b74)=true then some 2
 else some 0
 else if (!(a1.Kind==5))=true then if (a1.Op != 0)=true then some 2
 else if (a1.N != 0)=true then some 2
 else if (!b74)=true then some 2
 else some 0
 else if (!b74)=true then some 2
 else some 0) (fun k73=>if (a1.Kind==6)=true then k73 (((a1.Kids.length:Nat):Int)==1)
 else jn (fun(b77:Bool)=>if b77=true then k73 (decide (((a1.Kids.length:Nat):Int)>=2))
 else k73 (((a1.Kids.length:Nat):Int)==0)) (fun k76=>if (a1.Kind==7)=true then k76 (a1.Kind==7)
 else k76 (a1.Kind==8)))
def pu(F:Nat)(a1:B8)(k3:Option Bool):Nat->Int->Option Bool
  |0,n5=>k3
  |tl1+1,n5=>(cH a1 n5).bind fun c7=>if (decide ((c7.toNat:Int)<32))=true then some false
 else (cH a1 n5).bind fun c10=>if (decide ((c10.toNat:Int)>126))=true then some false
 else pu F a1 k3 tl1 (n5+1)
def PU(F:Nat)(a1:B8):Option Bool:=
 if (decide ((a1.length:Int)>1000))=true then some false
 else jn (some true) (fun k3=>if (a1.length:Int)<=9223372036854775807 then pu F a1 k3 (((a1.length:Int):Int).toNat) 0 else none)
def dW(F:Nat)(a1:aH)(k13:Option Int):br->Int->Option Int
  |[],n15=>k13
  |x18::tl1,n15=>jn (dW F a1 k13 tl1 (n15+1)) (fun k17=>(PU F x18).bind fun y20=>if (!y20)=true then some 2
 else if (decide (n15>0))=true then (cH a1.Texts n15).bind fun x24=>(cH a1.Texts (bt (n15 - 1))).bind fun x26=>if (Op.bytesLess x24 x26||x24==x26)=true then some 10
 else k17
 else k17)
def kx(F:Nat)(a1:aH):Option Int:=
 (rF F a1).bind fun y2=>if (y2 != 0)=true then some y2
 else if (decide (a1.Kind>=2))=true then if (decide (a1.Kind<=5))=true then (A8 F a1.Name).bind fun y7=>if (!y7)=true then some 8
 else if (a1.Kind==2)=true then if (((a1.Texts.length:Nat):Int)==0)=true then some 13
 else if (decide (((a1.Texts.length:Nat):Int)>50))=true then some 3
 else jn (jn (some 0) (fun k30=>if (a1.Kind==5)=true then (uZ F a1.Op 1 5).bind fun y32=>if y32=true then some 7
 else (uZ F a1.N (-1000000000000) 1000000000000).bind fun y35=>if y35=true then some 9
 else k30
 else k30)) (fun k13=>dW F a1 k13 a1.Texts 0)
 else jn (jn (some 0) (fun k59=>if (a1.Kind==5)=true then (uZ F a1.Op 1 5).bind fun y61=>if y61=true then some 7
 else (uZ F a1.N (-1000000000000) 1000000000000).bind fun y64=>if y64=true then some 9
 else k59
 else k59)) (fun k38=>if (a1.Kind==3)=true then if (((a1.Texts.length:Nat):Int)==0)=true then some 13
 else if (decide (((a1.Texts.length:Nat):Int)>50))=true then some 3
 else jn (k38) (fun k42=>dW F a1 k42 a1.Texts 0)
 else k38)
 else if (a1.Kind==2)=true then if (((a1.Texts.length:Nat):Int)==0)=true then some 13
 else if (decide (((a1.Texts.length:Nat):Int)>50))=true then some 3
 else jn (jn (some 0) (fun k87=>if (a1.Kind==5)=true then (uZ F a1.Op 1 5).bind fun y89=>if y89=true then some 7
 else (uZ F a1.N (-1000000000000) 1000000000000).bind fun y92=>if y92=true then some 9
 else k87
 else k87)) (fun k70=>dW F a1 k70 a1.Texts 0)
 else jn (jn (some 0) (fun k116=>if (a1.Kind==5)=true then (uZ F a1.Op 1 5).bind fun y118=>if y118=true then some 7
 else (uZ F a1.N (-1000000000000) 1000000000000).bind fun y121=>if y121=true then some 9
 else k116
 else k116)) (fun k95=>if (a1.Kind==3)=true then if (((a1.Texts.length:Nat):Int)==0)=true then some 13
 else if (decide (((a1.Texts.length:Nat):Int)>50))=true then some 3
 else jn (k95) (fun k99=>dW F a1 k99 a1.Texts 0)
 else k95)
 else if (a1.Kind==2)=true then if (((a1.Texts.length:Nat):Int)==0)=true then some 13
 else if (decide (((a1.Texts.length:Nat):Int)>50))=true then some 3
 else jn (jn (some 0) (fun k144=>if (a1.Kind==5)=true then (uZ F a1.Op 1 5).bind fun y146=>if y146=true then some 7
 else (uZ F a1.N (-1000000000000) 1000000000000).bind fun y149=>if y149=true then some 9
 else k144
 else k144)) (fun k127=>dW F a1 k127 a1.Texts 0)
 else jn (jn (some 0) (fun k173=>if (a1.Kind==5)=true then (uZ F a1.Op 1 5).bind fun y175=>if y175=true then some 7
 else (uZ F a1.N (-1000000000000) 1000000000000).bind fun y178=>if y178=true then some 9
 else k173
 else k173)) (fun k152=>if (a1.Kind==3)=true then if (((a1.Texts.length:Nat):Int)==0)=true then some 13
 else if (decide (((a1.Texts.length:Nat):Int)>50))=true then some 3
 else jn (k152) (fun k156=>dW F a1 k156 a1.Texts 0)
 else k152)
def nq(R94:aH->Option Int)(F:Nat)(a1:aH)(k5:Option Int):Nat->Int->Option Int
  |0,n7=>k5
  |tl1+1,n7=>(cH a1.Kids n7).bind fun x9=>(er ag x9).bind fun y11=>(R94 y11).bind fun y13=>if (y13 != 0)=true then some y13
 else nq R94 F a1 k5 tl1 (n7+1)
def A3(R94:aH->Option Int)(F:Nat)(a1:aH):Option Int:=
 (kx F a1).bind fun y2=>if (y2 != 0)=true then some y2
 else jn (some 0) (fun k5=>if ((a1.Kids.length:Nat):Int)<=9223372036854775807 then nq R94 F a1 k5 ((((a1.Kids.length:Nat):Int):Int).toNat) 0 else none)
def MW:Nat->aH->Option Int
 |0,_=>none
 |F+1,a1=>A3 (MW F) F a1
def P1(F:Nat)(a1:aH):Option Int:=
 (MY F a1 60).bind fun y2=>if (decide (y2>60))=true then some 3
 else (MX F a1).bind fun y5=>if (decide (y5>12))=true then some 3
 else (MW F a1).bind fun y8=>some y8
def Jv(F:Nat)(a1:aw)(a2:Int):Option Int:=
 (cH a1.Rules a2).bind fun x3=>(A8 F x3.Name).bind fun y5=>if (!y5)=true then some 8
 else if 0<=a2/\a2.toNat<=a1.Rules.length then (FD F (a1.Rules.take a2.toNat) x3.Name).bind fun y9=>if (decide (y9>=0))=true then some 5
 else (A8 F x3.About).bind fun y12=>if (!y12)=true then some 8
 else (P1 F x3.When).bind fun y15=>if (y15 != 0)=true then some y15
 else (uZ F x3.Level 1 4).bind fun y18=>if y18=true then some 7
 else some 0 else none
def ma(F:Nat)(a2:bN)(k9:Option Int):Nat->Int->Option Int
 |0,_=>none
 |n+1,n11=>if (decide ((bt (n11+1))<(a2.Subject.length:Int)))=true then (cH a2.Subject n11).bind fun c13=>if ((c13.toNat:Int)==42)=true then some 2
 else ma F a2 k9 n (bt (n11+1))
 else k9
def Ju(F:Nat)(a1:aw)(a2:bN):Option Int:=
 (FD F a1.Rules a2.Rule).bind fun y3=>if (decide (y3<0))=true then some 4
 else (PU F a2.Subject).bind fun y6=>if (!y6)=true then some 2
 else jn ((uZ F a2.From 0 a2.To).bind fun y16=>if y16=true then some 9
 else if (decide (a2.To>1000000))=true then some 9
 else (A8 F a2.Owner).bind fun y20=>if (!y20)=true then some 8
 else (uZ F a2.Level 1 3).bind fun y23=>if y23=true then some 7
 else some 0) (fun k9=>ma F a2 k9 F 0)
def nE(F:Nat)(a1:aw)(k12:Option Int):Nat->Int->Option Int
  |0,n14=>k12
  |tl2+1,n14=>(cH a1.Waivers n14).bind fun x16=>(Ju F a1 x16).bind fun y18=>if (y18 != 0)=true then some y18
 else nE F a1 k12 tl2 (n14+1)
def nF(F:Nat)(a1:aw)(k4:Option Int):Nat->Int->Option Int
  |0,n6=>k4
  |tl1+1,n6=>(Jv F a1 n6).bind fun y8=>if (y8 != 0)=true then some y8
 else nF F a1 k4 tl1 (n6+1)
def P0(F:Nat)(a1:aw):Option Int:=
 if (decide (((a1.Rules.length:Nat):Int)>100))=true then some 3
 else if (decide (((a1.Waivers.length:Nat):Int)>200))=true then some 3
 else jn (jn (some 0) (fun k12=>if ((a1.Waivers.length:Nat):Int)<=9223372036854775807 then nE F a1 k12 ((((a1.Waivers.length:Nat):Int):Int).toNat) 0 else none)) (fun k4=>nF F a1 k4 ((((a1.Rules.length:Nat):Int):Int).toNat) 0)
def nC(F:Nat)(a1:aw)(a2:B8)(k3:bx->Option bx):Nat->Int->bx->Option bx
  |0,n7,l8=>k3 l8
  |tl1+1,n7,l8=>(cH a1.Rules n7).bind fun x10=>jn (fun(l13:bx)=>nC F a1 a2 k3 tl1 (n7+1) l13) (fun k12=>if (x10.About==a2)=true then if (l8++([n7]:bx)).length*8<=140737488355328 then k12 (l8++([n7]:bx)) else none
 else k12 l8)
def PZ(F:Nat)(a1:aw)(a2:B8):Option bx:=
 jn (fun(l4:bx)=>some l4) (fun k3=>if ((a1.Rules.length:Nat):Int)<=9223372036854775807 then nC F a1 a2 k3 ((((a1.Rules.length:Nat):Int):Int).toNat) 0 ([]:bx) else none)
def nB(F:Nat)(a1:aw)(k17:cM->Option cM):bx->cM->Option cM
 |[],l22=>k17 l22
 |x24::tl1,l22=>(cH a1.Rules x24).bind fun x26=>if (l22++([c8 ag x26.When]:cM)).length*88<=140737488355328 then nB F a1 k17 tl1 (l22++([c8 ag x26.When]:cM)) else none
def PY(F:Nat)(a1:aw)(a2:bx):Option cM:=
 jn (fun(l18:cM)=>some l18) (fun k17=>nB F a1 k17 a2 ([]:cM))
def Fw(F:Nat)(a1:cM):Option aH:=
 some (aH.mk 7 ([]:B8) ([]:br) 0 0 a1)
def lZ(F:Nat)(a1:br)(a2:B8)(k3:Int->Option (Int×Bool)):Nat->Int->Int->Option (Int×Bool)
 |0,_,_=>none
 |n+1,n7,n8=>if (decide (n7<n8))=true then (cH a1 (bt (Int.tdiv (bt (n7+n8)) 2))).bind fun x10=>jn (fun(n13:Int) (n14:Int)=>lZ F a1 a2 k3 n n13 n14) (fun k12=>if (Op.bytesLess x10 a2)=true then k12 (bt ((bt (Int.tdiv (bt (n7+n8)) 2))+1)) n8
 else k12 n7 (bt (Int.tdiv (bt (n7+n8)) 2)))
 else k3 n7
def Bf(F:Nat)(a1:br)(a2:B8):Option (Int×Bool):=
 jn (fun(n4:Int)=>if (decide (n4<((a1.length:Nat):Int)))=true then (cH a1 n4).bind fun x17=>some (n4,(x17==a2))
 else some (n4,false)) (fun k3=>lZ F a1 a2 k3 F 0 ((a1.length:Nat):Int))
def zf(F:Nat)(a1:br)(a2:B8):Option br:=
 (Bf F a1 a2).bind fun y3=>if (y3.2)=true then some a1
 else if 0<=(y3.1)/\(y3.1).toNat<=a1.length then if (a1.take (y3.1).toNat).length*16<=140737488355328 then if ((a1.take (y3.1).toNat)++([a2]:br)).length*16<=140737488355328 then if 0<=(y3.1)/\(y3.1).toNat<=a1.length then if (((a1.take (y3.1).toNat)++([a2]:br))++(a1.drop (y3.1).toNat)).length*16<=140737488355328 then some (((a1.take (y3.1).toNat)++([a2]:br))++(a1.drop (y3.1).toNat)) else none else none else none else none else none
def nM(R51:aH->br->Option br)(F:Nat)(a1:aH)(k6:br->Option br):Nat->Int->br->Option br
 |0,n11,l10=>k6 l10
 |tl1+1,n11,l10=>(cH a1.Kids n11).bind fun x13=>(er ag x13).bind fun y15=>(R51 y15 l10).bind fun y17=>nM R51 F a1 k6 tl1 (n11+1) y17
def A7(R51:aH->br->Option br)(F:Nat)(a1:aH)(a2:br):Option br:=
 if (!(a1.Name==([]:B8)))=true then (zf F a2 a1.Name).bind fun y4=>some y4
 else jn (fun(l7:br)=>some l7) (fun k6=>if ((a1.Kids.length:Nat):Int)<=9223372036854775807 then nM R51 F a1 k6 ((((a1.Kids.length:Nat):Int):Int).toNat) 0 a2 else none)
def Jf:Nat->aH->br->Option br
 |0,_,_=>none
 |F+1,a1,a2=>A7 (Jf F) F a1 a2
def iq(R97_1:aH->B8->cM->Option cM)(F:Nat)(a1:aH)(a2:B8)(k23:cM->Option cM):Nat->Int->cM->Option cM
 |0,n27,l28=>k23 l28
 |tl1+1,n27,l28=>(cH a1.Kids n27).bind fun x30=>(er ag x30).bind fun y32=>(R97_1 y32 a2 l28).bind fun y34=>iq R97_1 F a1 a2 k23 tl1 (n27+1) y34
def qu(R97_1:aH->B8->cM->Option cM)(F:Nat)(a1:aH)(a2:B8)(a3:cM):Option cM:=
 if (a1.Name==a2)=true then if (a3++([c8 ag a1]:cM)).length*88<=140737488355328 then some (a3++([c8 ag a1]:cM)) else none
 else jn (fun(l24:cM)=>some l24) (fun k23=>if ((a1.Kids.length:Nat):Int)<=9223372036854775807 then iq R97_1 F a1 a2 k23 ((((a1.Kids.length:Nat):Int):Int).toNat) 0 a3 else none)
def rZ:Nat->aH->B8->cM->Option cM
 |0,_,_,_=>none
 |F+1,a1,a2,a3=>qu (rZ F) F a1 a2 a3
def nl(F:Nat)(a1:aH)(a2:B8)(k22:cM->Option cM):Nat->Int->cM->Option cM
 |0,n26,l27=>k22 l27
 |tl1+1,n26,l27=>(cH a1.Kids n26).bind fun x29=>(er ag x29).bind fun y31=>(rZ F y31 a2 l27).bind fun y33=>nl F a1 a2 k22 tl1 (n26+1) y33
def PS(F:Nat)(a1:aH)(a2:B8):Option cM:=
 if (a1.Name==a2)=true then if (([]:cM)++([c8 ag a1]:cM)).length*88<=140737488355328 then some (([]:cM)++([c8 ag a1]:cM)) else none
 else jn (fun(l23:cM)=>some l23) (fun k22=>if ((a1.Kids.length:Nat):Int)<=9223372036854775807 then nl F a1 a2 k22 ((((a1.Kids.length:Nat):Int):Int).toNat) 0 ([]:cM) else none)
def nj(F:Nat)(a1:cM)(k2:Bool->Bool->Bool->Option (Bool×Bool×Bool)):Nat->Int->Bool->Bool->Bool->Option (Bool×Bool×Bool)
  |0,n13,b10,b11,b12=>k2 b10 b11 b12
  |tl1+1,n13,b10,b11,b12=>jn (fun(b16:Bool) (b17:Bool) (b18:Bool)=>nj F a1 k2 tl1 (n13+1) b16 b17 b18) (fun k15=>if b10=true then if b11=true then if b12=true then k15 true true true
 else (cH a1 n13).bind fun x22=>(er ag x22).bind fun y24=>k15 true true (y24.Kind==4)
 else (cH a1 n13).bind fun x26=>(er ag x26).bind fun y28=>if b12=true then k15 true (y28.Kind==5) true
 else (cH a1 n13).bind fun x31=>(er ag x31).bind fun y33=>k15 true (y28.Kind==5) (y33.Kind==4)
 else (cH a1 n13).bind fun x35=>(er ag x35).bind fun y37=>if (y37.Kind==2)=true then if b11=true then if b12=true then k15 true true true
 else (cH a1 n13).bind fun x42=>(er ag x42).bind fun y44=>k15 true true (y44.Kind==4)
 else (cH a1 n13).bind fun x46=>(er ag x46).bind fun y48=>if b12=true then k15 true (y48.Kind==5) true
 else (cH a1 n13).bind fun x51=>(er ag x51).bind fun y53=>k15 true (y48.Kind==5) (y53.Kind==4)
 else (cH a1 n13).bind fun x55=>(er ag x55).bind fun y57=>if b11=true then if b12=true then k15 (y57.Kind==3) true true
 else (cH a1 n13).bind fun x61=>(er ag x61).bind fun y63=>k15 (y57.Kind==3) true (y63.Kind==4)
 else (cH a1 n13).bind fun x65=>(er ag x65).bind fun y67=>if b12=true then k15 (y57.Kind==3) (y67.Kind==5) true
 else (cH a1 n13).bind fun x70=>(er ag x70).bind fun y72=>k15 (y57.Kind==3) (y67.Kind==5) (y72.Kind==4))
def OQ(F:Nat)(a1:cM):Option (Bool×Bool×Bool):=
 jn (fun(b3:Bool) (b4:Bool) (b5:Bool)=>some (b3,b4,b5)) (fun k2=>nj F a1 k2 ((((a1.length:Nat):Int):Int).toNat) 0 false false false)
def gQ(F:Nat)(y16:cM)(k18:Int->Option Bool):cM->Int->Int->Option Bool
  |[],n23,n22=>k18 n22
  |x25::tl2,n23,n22=>(er ag x25).bind fun y27=>jn (fun(n30:Int)=>gQ F y16 k18 tl2 (n23+1) n30) (fun k29=>if (y27.Kind==2)=true then (cH y16 n23).bind fun x32=>(er ag x32).bind fun y34=>k29 (bt (n22+((y34.Texts.length:Nat):Int)))
 else if (y27.Kind==3)=true then (cH y16 n23).bind fun x37=>(er ag x37).bind fun y39=>k29 (bt (n22+(bt (2*((y39.Texts.length:Nat):Int)))))
 else if (y27.Kind==5)=true then k29 (bt (n22+2))
 else k29 n22)
def jy(F:Nat)(a1:aH)(y2:br)(k4:Int->Option Bool):Nat->Int->Int->Option Bool
 |0,_,_=>none
 |n+1,n8,n9=>if (decide (n9<((y2.length:Nat):Int)))=true then if (decide (n8<=200000))=true then jn (fun(n13:Int)=>jy F a1 y2 k4 n n13 (bt (n9+1))) (fun k12=>(cH y2 n9).bind fun x14=>(PS F a1 x14).bind fun y16=>jn (fun(n19:Int)=>(OQ F y16).bind fun y43=>if (y43.2.2)=true then k12 (bt (n8*(bt (n19+1))))
 else if (y43.1)=true then jn (fun(n48:Int)=>k12 (bt (n8*n48))) (fun k47=>if (y43.2.1)=true then k47 (bt (n19+1))
 else k47 n19)
 else k12 (bt (n8*n19))) (fun k18=>gQ F y16 k18 y16 0 2))
 else k4 n8
 else k4 n8
def Pg(F:Nat)(a1:aH):Option Bool:=
 (Jf F a1 ([]:br)).bind fun y2=>jn (fun(n5:Int)=>some (decide (n5>200000))) (fun k4=>jy F a1 y2 k4 F 1 0)
def Sd(F:Nat)(a1:aH):Option aH:=
 some (aH.mk 6 ([]:B8) ([]:br) 0 0 ([c8 ag a1]:cM))
def nA(F:Nat)(a1:aw)(a2:bx)(k4:cM->Option aH):Nat->Int->cM->Option aH
 |0,n8,l9=>k4 l9
 |tl1+1,n8,l9=>(cH a2 n8).bind fun x11=>(cH a1.Rules x11).bind fun x13=>(Sd F x13.When).bind fun y15=>if (l9++([c8 ag y15]:cM)).length*88<=140737488355328 then nA F a1 a2 k4 tl1 (n8+1) (l9++([c8 ag y15]:cM)) else none
def PX(F:Nat)(a1:aw)(a2:bx)(a3:Int):Option aH:=
 jn (fun(l5:cM)=>jn (fun(l20:cM)=>(Fw F l20).bind fun y27=>some y27) (fun k19=>if (decide (a3<((a2.length:Nat):Int)))=true then (cH a2 a3).bind fun x22=>(cH a1.Rules x22).bind fun x24=>if (l5++([c8 ag x24.When]:cM)).length*88<=140737488355328 then k19 (l5++([c8 ag x24.When]:cM)) else none
 else k19 l5)) (fun k4=>if a3<=9223372036854775807 then nA F a1 a2 k4 ((a3:Int).toNat) 0 ([]:cM) else none)
def ku(F:Nat)(a1:aw)(a2:bx)(a3:Int)(k4:cM->Option aH):Nat->Int->cM->Option aH
 |0,_,_=>none
 |n+1,n8,l9=>if (decide (n8<=((a2.length:Nat):Int)))=true then jn (fun(n12:Int)=>jn (fun(l19:cM)=>ku F a1 a2 a3 k4 n (bt (n8+1)) l19) (fun k18=>if (n12==a3)=true then (PX F a1 a2 n8).bind fun y21=>if (l9++([c8 ag y21]:cM)).length*88<=140737488355328 then k18 (l9++([c8 ag y21]:cM)) else none
 else k18 l9)) (fun k11=>if (decide (n8<((a2.length:Nat):Int)))=true then (cH a2 n8).bind fun x14=>(cH a1.Rules x14).bind fun x16=>k11 x16.Level
 else k11 1)
 else k4 l9
def JL(F:Nat)(a1:aw)(a2:bx)(a3:Int):Option aH:=
 jn (fun(l5:cM)=>some (aH.mk 8 ([]:B8) ([]:br) 0 0 l5)) (fun k4=>ku F a1 a2 a3 k4 F 0 ([]:cM))
def PT(F:Nat)(a1:br)(a2:B8):Option Bool:=
 (Bf F a1 a2).bind fun y3=>some (y3.2)
def g8(F:Nat)(a2:br)(x10:B8)(k16:br->Option (B8×Bool)):Nat->Int->br->Option (B8×Bool)
 |0,_,_=>none
 |n+1,n20,l21=>if (decide (n20<=126))=true then if (decide ((x10.length:Int)<1000))=true then if x10.length+(([n20]:bx).map fun n=>UInt8.ofNat n.toNat).length<=9223372036854775807 then (PT F a2 (x10++(([n20]:bx).map fun n=>UInt8.ofNat n.toNat))).bind fun y25=>jn (fun(l28:br)=>g8 F a2 x10 k16 n (IntKind.wrap .u8 (n20+1)) l28) (fun k27=>if (!y25)=true then if (l21++([(x10++(([n20]:bx).map fun n=>UInt8.ofNat n.toNat))]:br)).length*16<=140737488355328 then k27 (l21++([(x10++(([n20]:bx).map fun n=>UInt8.ofNat n.toNat))]:br)) else none
 else k27 l21) else none
 else k16 l21
 else k16 l21
def iX(F:Nat)(a2:br)(a3:br)(k4:Option (B8×Bool)):Nat->br->Option (B8×Bool)
 |0,_=>none
 |n+1,l6=>if (decide (((l6.length:Nat):Int)>0))=true then jn (fun(l9:br)=>iX F a2 a3 k4 n l9) (fun k8=>(cH l6 0).bind fun x10=>if 1<=l6.length then (PT F a3 x10).bind fun y13=>if (!y13)=true then some (x10,true)
 else jn (fun(l17:br)=>k8 l17) (fun k16=>g8 F a2 x10 k16 F 32 (l6.drop 1)) else none)
 else k4
def CC(F:Nat)(a1:B8)(a2:br)(a3:br):Option (B8×Bool):=
 jn (some (([]:B8),false)) (fun k4=>iX F a2 a3 k4 F ([a1]:br))
def iZ(F:Nat)(l3:br)(l4:br)(k57:br->Option br):br->br->Option br
  |[],l62=>k57 l62
  |x64::tl3,l62=>(CC F x64 l4 l3).bind fun y66=>jn (fun(l69:br)=>iZ F l3 l4 k57 tl3 l69) (fun k68=>if (y66.2)=true then if (l62++([(y66.1)]:br)).length*16<=140737488355328 then k68 (l62++([(y66.1)]:br)) else none
 else k68 l62)
def lV(F:Nat)(a1:cM)(n10:Int)(k15:br->br->Option br):Nat->br->br->Int->Option br
 |0,_,_,_=>none
 |n+1,l21,l22,n23=>(cH a1 n10).bind fun x24=>(er ag x24).bind fun y26=>if (decide (n23<((y26.Texts.length:Nat):Int)))=true then (cH a1 n10).bind fun x29=>(er ag x29).bind fun y31=>jn (fun(l34:br) (l35:br)=>lV F a1 n10 k15 n l34 l35 (bt (n23+1))) (fun k33=>if (y31.Kind==2)=true then (cH a1 n10).bind fun x37=>(er ag x37).bind fun y39=>(cH y39.Texts n23).bind fun x41=>(zf F l21 x41).bind fun y43=>k33 y43 l22
 else (cH a1 n10).bind fun x45=>(er ag x45).bind fun y47=>(cH y47.Texts n23).bind fun x49=>(zf F l22 x49).bind fun y51=>k33 l21 y51)
 else k15 l21 l22
def i4(F:Nat)(a1:cM)(k2:br->br->Option br):Nat->Int->br->br->Option br
 |0,n10,l8,l9=>k2 l8 l9
 |tl1+1,n10,l8,l9=>jn (fun(l13:br) (l14:br)=>i4 F a1 k2 tl1 (n10+1) l13 l14) (fun k12=>jn (fun(l16:br) (l17:br)=>k12 l16 l17) (fun k15=>lV F a1 n10 k15 F l8 l9 0))
def CD(F:Nat)(a1:cM):Option br:=
 jn (fun(l3:br) (l4:br)=>if l3.length*16<=140737488355328 then (zf F l4 ([]:B8)).bind fun y55=>jn (fun(l58:br)=>some l58) (fun k57=>iZ F l3 l4 k57 y55 l3) else none) (fun k2=>i4 F a1 k2 ((((a1.length:Nat):Int):Int).toNat) 0 ([]:br) ([]:br))
def jU(F:Nat)(a1:bx)(a2:Int)(k3:bx->Option bx):bx->Int->bx->Option bx
  |[],n7,l8=>k3 l8
  |x10::tl1,n7,l8=>if (x10==a2)=true then some a1
 else (cH a1 n7).bind fun x13=>if (decide (x13>a2))=true then if (l8++([a2]:bx)).length*8<=140737488355328 then if 0<=n7/\n7.toNat<=a1.length then if ((l8++([a2]:bx))++(a1.drop n7.toNat)).length*8<=140737488355328 then some ((l8++([a2]:bx))++(a1.drop n7.toNat)) else none else none else none
 else (cH a1 n7).bind fun x19=>if (l8++([x19]:bx)).length*8<=140737488355328 then jU F a1 a2 k3 tl1 (n7+1) (l8++([x19]:bx)) else none
def Jj(F:Nat)(a1:bx)(a2:Int):Option bx:=
 jn (fun(l4:bx)=>if (l4++([a2]:bx)).length*8<=140737488355328 then some (l4++([a2]:bx)) else none) (fun k3=>jU F a1 a2 k3 a1 0 ([]:bx))
def g9(F:Nat)(l3:bx)(k24:bx->Option bx):bx->Int->bx->Option bx
  |[],n28,l29=>k24 l29
  |x33::tl2,n28,l29=>jn (fun(l32:bx)=>g9 F l3 k24 tl2 (n28+1) l32) (fun k31=>if (decide ((bt (x33 - 1))>=(-1000000000000)))=true then if (n28==0)=true then if (l29++([(bt (x33 - 1))]:bx)).length*8<=140737488355328 then (cH l3 n28).bind fun x38=>if ((l29++([(bt (x33 - 1))]:bx))++([x38]:bx)).length*8<=140737488355328 then k31 ((l29++([(bt (x33 - 1))]:bx))++([x38]:bx)) else none else none
 else (cH l3 (bt (n28 - 1))).bind fun x41=>jn (fun(l44:bx)=>(cH l3 n28).bind fun x47=>if (l44++([x47]:bx)).length*8<=140737488355328 then k31 (l44++([x47]:bx)) else none) (fun k43=>if (decide (x41<(bt (x33 - 1))))=true then if (l29++([(bt (x33 - 1))]:bx)).length*8<=140737488355328 then k43 (l29++([(bt (x33 - 1))]:bx)) else none
 else k43 l29)
 else (cH l3 n28).bind fun x50=>if (l29++([x50]:bx)).length*8<=140737488355328 then k31 (l29++([x50]:bx)) else none)
def jW(F:Nat)(a1:cM)(k2:bx->Option bx):cM->Int->bx->Option bx
  |[],n7,l6=>k2 l6
  |x9::tl1,n7,l6=>(er ag x9).bind fun y11=>jn (fun(l14:bx)=>jW F a1 k2 tl1 (n7+1) l14) (fun k13=>if (y11.Kind==5)=true then (cH a1 n7).bind fun x16=>(er ag x16).bind fun y18=>(Jj F l6 y18.N).bind fun y20=>k13 y20
 else k13 l6)
def y0(F:Nat)(a1:cM):Option bx:=
 jn (fun(l3:bx)=>if (((l3.length:Nat):Int)==0)=true then some ([0]:bx)
 else jn (fun(l25:bx)=>(cH l3 (bt (((l3.length:Nat):Int) - 1))).bind fun x54=>jn (fun(l57:bx)=>some l57) (fun k56=>if (decide ((bt (x54+1))<=1000000000000))=true then if (l25++([(bt (x54+1))]:bx)).length*8<=140737488355328 then k56 (l25++([(bt (x54+1))]:bx)) else none
 else k56 l25)) (fun k24=>g9 F l3 k24 l3 0 ([]:bx))) (fun k2=>jW F a1 k2 a1 0 ([]:bx))
def jZ(F:Nat)(y5:br)(y8:bx)(n36:Int)(k41:cW->Option cW):Nat->Int->cW->Option cW
 |0,n45,l46=>k41 l46
 |tl4+1,n45,l46=>(cH y5 n36).bind fun x48=>(cH y8 n45).bind fun x50=>if (l46++([(ah.mk true true x48 x50)]:cW)).length*32<=140737488355328 then jZ F y5 y8 n36 k41 tl4 (n45+1) (l46++([(ah.mk true true x48 x50)]:cW)) else none
def i7(F:Nat)(y5:br)(y8:bx)(k32:cW->Option cW):Nat->Int->cW->Option cW
 |0,n36,l37=>k32 l37
 |tl3+1,n36,l37=>jn (fun(l40:cW)=>i7 F y5 y8 k32 tl3 (n36+1) l40) (fun k39=>jn (fun(l42:cW)=>k39 l42) (fun k41=>jZ F y5 y8 n36 k41 ((((y8.length:Nat):Int):Int).toNat) 0 l37))
def dG(F:Nat)(k21:cW->Option cW):bx->cW->Option cW
 |[],l26=>k21 l26
 |x28::tl2,l26=>if (l26++([(ah.mk false true ([]:B8) x28)]:cW)).length*32<=140737488355328 then dG F k21 tl2 (l26++([(ah.mk false true ([]:B8) x28)]:cW)) else none
def dH(F:Nat)(k10:cW->Option cW):br->cW->Option cW
 |[],l15=>k10 l15
 |x17::tl1,l15=>if (l15++([(ah.mk true false x17 0)]:cW)).length*32<=140737488355328 then dH F k10 tl1 (l15++([(ah.mk true false x17 0)]:cW)) else none
def Bg(F:Nat)(a1:cM):Option cW:=
 (OQ F a1).bind fun y2=>if (y2.1)=true then (CD F a1).bind fun y5=>if (y2.2.1)=true then (y0 F a1).bind fun y8=>jn (fun(l11:cW)=>jn (fun(l22:cW)=>jn (fun(l33:cW)=>some l33) (fun k32=>i7 F y5 y8 k32 ((((y5.length:Nat):Int):Int).toNat) 0 l22)) (fun k21=>dG F k21 y8 l11)) (fun k10=>dH F k10 y5 ([(ah.mk false false ([]:B8) 0)]:cW))
 else jn (fun(l56:bx)=>jn (fun(l61:cW)=>jn (fun(l72:cW)=>some l72) (fun k71=>dG F k71 l56 l61)) (fun k60=>dH F k60 y5 ([(ah.mk false false ([]:B8) 0)]:cW))) (fun k55=>if (y2.2.2)=true then (y0 F a1).bind fun y58=>k55 y58
 else k55 ([]:bx))
 else jn (fun(l83:br)=>if (y2.2.1)=true then (y0 F a1).bind fun y88=>jn (fun(l91:cW)=>jn (fun(l102:cW)=>some l102) (fun k101=>dG F k101 y88 l91)) (fun k90=>dH F k90 l83 ([(ah.mk false false ([]:B8) 0)]:cW))
 else jn (fun(l113:bx)=>jn (fun(l118:cW)=>jn (fun(l129:cW)=>some l129) (fun k128=>dG F k128 l113 l118)) (fun k117=>dH F k117 l83 ([(ah.mk false false ([]:B8) 0)]:cW))) (fun k112=>if (y2.2.2)=true then (y0 F a1).bind fun y115=>k112 y115
 else k112 ([]:bx))) (fun k82=>if (y2.2.2)=true then (CD F a1).bind fun y85=>k82 y85
 else k82 ([]:br))
def nu(F:Nat)(a1:aH)(k27:(List cW)->Option (br×(List cW)×(List Bool)×cW)):br->(List cW)->Option (br×(List cW)×(List Bool)×cW)
 |[],l32=>k27 l32
 |x34::tl1,l32=>(PS F a1 x34).bind fun y36=>(Bg F y36).bind fun y38=>if (l32++([y38]:List cW)).length*24<=140737488355328 then nu F a1 k27 tl1 (l32++([y38]:List cW)) else none
def RJ(F:Nat)(a1:aH):Option (br×(List cW)×(List Bool)×cW):=
 (Jf F a1 ([]:br)).bind fun y25=>jn (fun(l28:List cW)=>if 0<=((y25.length:Nat):Int)/\((1:Nat):Int)*((y25.length:Nat):Int)<=140737488355328/\((y25.length:Nat):Int)<=140737488355328 then if 0<=((y25.length:Nat):Int)/\((32:Nat):Int)*((y25.length:Nat):Int)<=140737488355328/\((y25.length:Nat):Int)<=140737488355328 then some (y25,l28,(List.replicate (((y25.length:Nat):Int)).toNat (false:Bool)),(List.replicate (((y25.length:Nat):Int)).toNat ((ah.mk false false ([]:B8) 0):ah))) else none else none) (fun k27=>nu F a1 k27 y25 ([]:List cW))
def FB(F:Nat)(a1:Bool):Option Int:=
 if a1=true then some 1
 else some 0
def Jq(F:Nat)(a1:Int)(a2:Int)(a3:Int):Option Bool:=
 if (a1==1)=true then some (decide (a2<a3))
 else if (a1==2)=true then some (decide (a2<=a3))
 else if (a1==3)=true then some (a2==a3)
 else if (a1==4)=true then some (decide (a2>=a3))
 else some (decide (a2>a3))
def LO(F:Nat)(a1:B8)(a2:B8):Option Bool:=
 if (decide ((a1.length:Int)>=(a2.length:Int)))=true then if 0<=(a2.length:Int)/\(a2.length:Int).toNat<=a1.length then some ((a1.take (a2.length:Int).toNat)==a2) else none
 else some false
def j3(F:Nat)(a1:aH)(a2:ah)(k9:Option Bool):Nat->Int->Option Bool
 |0,_=>none
 |n+1,n11=>if (decide (n11<((a1.Texts.length:Nat):Int)))=true then if a2.isText=true then jn (fun(b15:Bool)=>j3 F a1 a2 k9 n (bt (n11+1))) (fun k14=>(cH a1.Texts n11).bind fun x16=>if (x16==a2.text)=true then some true
 else if (a1.Kind==3)=true then (cH a1.Texts n11).bind fun x20=>(LO F a2.text x20).bind fun y22=>if y22=true then some true
 else k14 y22
 else k14 false)
 else k9
 else k9
def FF(F:Nat)(a1:aH)(a2:ah):Option Bool:=
 if (a1.Kind==4)=true then if a2.isText=true then some true
 else some (a2.isNumber)
 else if (a1.Kind==5)=true then if a2.isNumber=true then (Jq F a1.Op a2.number a1.N).bind fun y7=>some y7
 else some false
 else jn (some false) (fun k9=>j3 F a1 a2 k9 F 0)
def fj(R126:aI->aH->Option Int)(F:Nat)(a1:aI)(a2:aH)(y17:Int)(k19:Int->Option Int):Nat->Int->Int->Option Int
  |0,n24,n23=>k19 n23
  |tl1+1,n24,n23=>(cH a2.Kids n24).bind fun x26=>(er ag x26).bind fun y28=>(R126 a1 y28).bind fun y30=>if (y30==y17)=true then some y17
 else jn (fun(n34:Int)=>fj R126 F a1 a2 y17 k19 tl1 (n24+1) n34) (fun k33=>if (y30==2)=true then k33 2
 else k33 n23)
def vg(R126:aI->aH->Option Int)(F:Nat)(a1:aI)(a2:aH):Option Int:=
 jn ((Bf F a1.names a2.Name).bind fun y37=>(cH a1.settled (y37.1)).bind fun x39=>if (!x39)=true then some 2
 else (cH a1.is (y37.1)).bind fun x42=>(FF F a2 x42).bind fun y44=>(FB F y44).bind fun y46=>some y46) (fun k3=>if (a2.Kind==1)=true then some 1
 else if (a2.Kind==6)=true then (cH a2.Kids 0).bind fun x6=>(er ag x6).bind fun y8=>(R126 a1 y8).bind fun y10=>if (y10==2)=true then some 2
 else some (bt (1 - y10))
 else jn (fun(b14:Bool)=>if b14=true then (FB F (a2.Kind==8)).bind fun y17=>jn (fun(n20:Int)=>some n20) (fun k19=>if ((a2.Kids.length:Nat):Int)<=9223372036854775807 then fj R126 F a1 a2 y17 k19 ((((a2.Kids.length:Nat):Int):Int).toNat) 0 (bt (1 - y17)) else none)
 else k3) (fun k13=>if (a2.Kind==7)=true then k13 (a2.Kind==7)
 else k13 (a2.Kind==8)))
def vQ:Nat->aI->aH->Option Int
 |0,_,_=>none
 |F+1,a1,a2=>vg (vQ F) F a1 a2
def jY(F:Nat)(a1:aI)(k2:Int->Int->Option Bool):Nat->Int->Int->Int->Option Bool
  |0,n10,n8,n9=>k2 n8 n9
  |tl1+1,n10,n8,n9=>jn (fun(n13:Int) (n14:Int)=>jY F a1 k2 tl1 (n10+1) n13 n14) (fun k12=>(cH a1.settled n10).bind fun x15=>if x15=true then (cH a1.is n10).bind fun x18=>jn (fun(n21:Int)=>(cH a1.settled n10).bind fun x23=>if x23=true then (cH a1.is n10).bind fun x26=>jn (fun(n29:Int)=>k12 n21 n29) (fun k28=>if x26.isNumber=true then k28 (bt (n9+1))
 else k28 n9)
 else k12 n21 n9) (fun k20=>if x18.isText=true then k20 (bt (n8+1))
 else k20 n8)
 else (cH a1.settled n10).bind fun x31=>if x31=true then (cH a1.is n10).bind fun x34=>jn (fun(n37:Int)=>k12 n8 n37) (fun k36=>if x34.isNumber=true then k36 (bt (n9+1))
 else k36 n9)
 else k12 n8 n9)
def Jt(F:Nat)(a1:aI):Option Bool:=
 jn (fun(n3:Int) (n4:Int)=>if (decide (n3<=30))=true then some (decide (n4<=30))
 else some false) (fun k2=>if ((a1.names.length:Nat):Int)<=9223372036854775807 then jY F a1 k2 ((((a1.names.length:Nat):Int):Int).toNat) 0 0 0 else none)
def iJ(R85:Int->Int->B8->br->Int->Int->cM->br->(List cW)->(List Bool)->cW->Option (Bool×(List Bool)×cW))(F:Nat)(a2:Int)(a3:B8)(a4:br)(a5:Int)(a6:Int)(a7:cM)(a8:br)(a9:List cW)(n65:Int)(k73:(List Bool)->cW->Option (Bool×(List Bool)×cW)):Nat->Int->(List Bool)->cW->Option (Bool×(List Bool)×cW)
 |0,_,_,_=>none
 |n+1,n79,l80,l81=>(cH a9 n65).bind fun x82=>if (decide (n79<((x82.length:Nat):Int)))=true then (cH a9 n65).bind fun x85=>(cH x85 n79).bind fun x87=>(cH l81 n65).bind fun x89=>(R85 (bt (n65+1)) a2 a3 a4 a5 a6 a7 a8 a9 l80 (l81.set n65.toNat x87)).bind fun y91=>if (y91.2.2).length=l81.length then if (y91.1)=true then some (true,(y91.2.1),(y91.2.2))
 else iJ R85 F a2 a3 a4 a5 a6 a7 a8 a9 n65 k73 n (bt (n79+1)) (y91.2.1) (y91.2.2) else none
 else k73 l80 l81
def pr(F:Nat)(a10:List Bool)(k64:Int->Option (Bool×(List Bool)×cW)):Nat->Int->Option (Bool×(List Bool)×cW)
 |0,_=>none
 |n+1,n67=>(cH a10 n67).bind fun x68=>if x68=true then pr F a10 k64 n (bt (n67+1))
 else k64 n67
def o7(R85:Int->Int->B8->br->Int->Int->cM->br->(List cW)->(List Bool)->cW->Option (Bool×(List Bool)×cW))(F:Nat)(a1:Int)(a2:Int)(a3:B8)(a4:br)(a5:Int)(a6:Int)(a7:cM)(a8:br)(a9:List cW)(a10:List Bool)(a11:cW):Option (Bool×(List Bool)×cW):=
 (vQ F (aI.mk (aH.mk a2 a3 a4 a5 a6 a7) a8 a9 a10 a11) (aH.mk a2 a3 a4 a5 a6 a7)).bind fun y57=>if (y57==0)=true then some (false,a10,a11)
 else (Jt F (aI.mk (aH.mk a2 a3 a4 a5 a6 a7) a8 a9 a10 a11)).bind fun y60=>if (!y60)=true then some (false,a10,a11)
 else if (y57==1)=true then some (true,a10,a11)
 else jn (fun(n65:Int)=>(cH a10 n65).bind fun x71=>jn (fun(l74:List Bool) (l75:cW)=>(cH l74 n65).bind fun x95=>(cH l75 n65).bind fun x97=>some (false,(l74.set n65.toNat false),(l75.set n65.toNat (ah.mk false false ([]:B8) 0)))) (fun k73=>iJ R85 F a2 a3 a4 a5 a6 a7 a8 a9 n65 k73 F 0 (a10.set n65.toNat true) a11)) (fun k64=>pr F a10 k64 F a1)
def Cv:Nat->Int->Int->B8->br->Int->Int->cM->br->(List cW)->(List Bool)->cW->Option (Bool×(List Bool)×cW)
 |0,_,_,_,_,_,_,_,_,_,_,_=>none
 |F+1,a1,a2,a3,a4,a5,a6,a7,a8,a9,a10,a11=>o7 (Cv F) F a1 a2 a3 a4 a5 a6 a7 a8 a9 a10 a11
def ni(F:Nat)(a1:aI)(k3:(List bu)->(List aL)->Option aW):Nat->Int->(List bu)->(List aL)->Option aW
  |0,n9,l10,l11=>k3 l10 l11
  |tl1+1,n9,l10,l11=>(cH a1.is n9).bind fun x13=>jn (fun(l16:List bu)=>(cH a1.is n9).bind fun x23=>jn (fun(l26:List aL)=>ni F a1 k3 tl1 (n9+1) l16 l26) (fun k25=>if x23.isNumber=true then (cH a1.names n9).bind fun x28=>(cH a1.is n9).bind fun x30=>if (l11++([(aL.mk x28 x30.number)]:List aL)).length*24<=140737488355328 then k25 (l11++([(aL.mk x28 x30.number)]:List aL)) else none
 else k25 l11)) (fun k15=>if x13.isText=true then (cH a1.names n9).bind fun x18=>(cH a1.is n9).bind fun x20=>if (l10++([(bu.mk x18 x20.text)]:List bu)).length*32<=140737488355328 then k15 (l10++([(bu.mk x18 x20.text)]:List bu)) else none
 else k15 l10)
def RB(F:Nat)(a1:aI)(a2:B8):Option aW:=
 jn (fun(l4:List bu) (l5:List aL)=>some (aW.mk a2 ([]:B8) l4 l5)) (fun k3=>if ((a1.names.length:Nat):Int)<=9223372036854775807 then ni F a1 k3 ((((a1.names.length:Nat):Int):Int).toNat) 0 ([]:List bu) ([]:List aL) else none)
def Pe(F:Nat)(a1:aH)(a2:B8):Option (aW×Bool):=
 (RJ F a1).bind fun y3=>(Cv F 0 a1.Kind a1.Name a1.Texts a1.Op a1.N a1.Kids (y3.1) (y3.2.1) (y3.2.2.1) (y3.2.2.2)).bind fun y5=>if (!(y5.1))=true then some ((aW.mk ([]:B8) ([]:B8) ([]:List bu) ([]:List aL)),false)
 else (RB F (aI.mk a1 (y3.1) (y3.2.1) (y5.2.1) (y5.2.2)) a2).bind fun y8=>some (y8,true)
def lT(F:Nat)(a1:aw)(a2:aw)(a3:B8)(y13:bx)(y15:bx)(n29:Int)(k32:Option (aW×Bool×Int)):Nat->Int->Option (aW×Bool×Int)
 |0,_=>none
 |n+1,n34=>if (decide (n34<=4))=true then jn (lT F a1 a2 a3 y13 y15 n29 k32 n (bt (n34+1))) (fun k36=>if (n29==n34)=true then k36
 else (JL F a1 y13 n29).bind fun y38=>(JL F a2 y15 n34).bind fun y40=>(Fw F ([c8 ag y38,c8 ag y40]:cM)).bind fun y42=>(Pe F y42 a3).bind fun y44=>if (y44.2)=true then some ((y44.1),true,0)
 else k36)
 else k32
def jz(F:Nat)(a1:aw)(a2:aw)(a3:B8)(y13:bx)(y15:bx)(k27:Option (aW×Bool×Int)):Nat->Int->Option (aW×Bool×Int)
 |0,_=>none
 |n+1,n29=>if (decide (n29<=4))=true then jn (jz F a1 a2 a3 y13 y15 k27 n (bt (n29+1))) (fun k31=>jn (k31) (fun k32=>lT F a1 a2 a3 y13 y15 n29 k32 F 1))
 else k27
def FM(F:Nat)(a1:aw)(a2:aw)(a3:B8):Option (aW×Bool×Int):=
 (P0 F a1).bind fun y4=>if (y4 != 0)=true then some ((aW.mk ([]:B8) ([]:B8) ([]:List bu) ([]:List aL)),false,y4)
 else (P0 F a2).bind fun y7=>if (y7 != 0)=true then some ((aW.mk ([]:B8) ([]:B8) ([]:List bu) ([]:List aL)),false,y7)
 else (A8 F a3).bind fun y10=>if (!y10)=true then some ((aW.mk ([]:B8) ([]:B8) ([]:List bu) ([]:List aL)),false,8)
 else (PZ F a1 a3).bind fun y13=>(PZ F a2 a3).bind fun y15=>(PY F a1 y13).bind fun y17=>(PY F a2 y15).bind fun y19=>if (y17++y19).length*88<=140737488355328 then (Fw F (y17++y19)).bind fun y22=>(Pg F y22).bind fun y24=>if y24=true then some ((aW.mk ([]:B8) ([]:B8) ([]:List bu) ([]:List aL)),false,3)
 else jn (some ((aW.mk ([]:B8) ([]:B8) ([]:List bu) ([]:List aL)),false,0)) (fun k27=>jz F a1 a2 a3 y13 y15 k27 F 1) else none
def M2(F:Nat):Option Bool:=some true
def nN(F:Nat)(a1:aW)(k28:Option Int):List aL->Int->Option Int
  |[],n30=>k28
  |x32::tl2,n30=>(Fy F x32.Name).bind fun y34=>jn (nN F a1 k28 tl2 (n30+1)) (fun k36=>if (!y34)=true then some 8
 else (vk F x32.N).bind fun y38=>if (!y38)=true then some 9
 else if (decide (n30>0))=true then (cH a1.Numbers (bt (n30 - 1))).bind fun x42=>if (Op.bytesLess x32.Name x42.Name||x32.Name==x42.Name)=true then some 10
 else k36
 else k36)
def nO(F:Nat)(a1:aW)(k9:Option Int):List bu->Int->Option Int
  |[],n11=>k9
  |x13::tl1,n11=>(Fy F x13.Name).bind fun y15=>jn (nO F a1 k9 tl1 (n11+1)) (fun k17=>if (!y15)=true then some 8
 else (Bh F x13.Value).bind fun y19=>if (!y19)=true then some 2
 else if (decide (n11>0))=true then (cH a1.Texts (bt (n11 - 1))).bind fun x23=>if (Op.bytesLess x13.Name x23.Name||x13.Name==x23.Name)=true then some 10
 else k17
 else k17)
def RR(F:Nat)(a1:aW):Option Int:=
 (Fy F a1.Kind).bind fun y2=>if (!y2)=true then some 8
 else (Bh F a1.Subject).bind fun y5=>if (!y5)=true then some 2
 else if (decide (((a1.Texts.length:Nat):Int)>30))=true then some 3
 else jn (if (decide (((a1.Numbers.length:Nat):Int)>30))=true then some 3
 else jn (some 0) (fun k28=>nN F a1 k28 a1.Numbers 0)) (fun k9=>nO F a1 k9 a1.Texts 0)
def mb(F:Nat)(k3:Option Int):List aW->Option Int
  |[]=>k3
  |x7::tl1=>(RR F x7).bind fun y9=>if (y9 != 0)=true then some y9
 else mb F k3 tl1
def Jy(F:Nat)(a1:(List aW)):Option Int:=
 if (decide (((a1.length:Nat):Int)>5000))=true then some 3
 else jn (some 0) (fun k3=>mb F k3 a1)
def RO(F:Nat)(a1:aw)(a2:(List aW))(a3:Int):Option Int:=
 (O9 F a1).bind fun y4=>if (y4 != 0)=true then some y4
 else (Jy F a2).bind fun y7=>if (y7 != 0)=true then some y7
 else if (decide (a3<0))=true then some 9
 else if (decide (a3>1000000))=true then some 9
 else some 0
def px(F:Nat)(k12:iG->Option aq):List aL->iG->Option aq
 |[],m17=>k12 m17
 |x19::tl2,m17=>px F k12 tl2 (cK m17 x19.Name (ac.mk ((aY m17 x19.Name).getD (ac.mk false false ([]:B8) 0)).hasText true ((aY m17 x19.Name).getD (ac.mk false false ([]:B8) 0)).text x19.N))
def py(F:Nat)(k2:iG->Option aq):List bu->iG->Option aq
 |[],m7=>k2 m7
 |x9::tl1,m7=>py F k2 tl1 (cK m7 x9.Name (ac.mk true ((aY m7 x9.Name).getD (ac.mk false false ([]:B8) 0)).hasNumber x9.Value ((aY m7 x9.Name).getD (ac.mk false false ([]:B8) 0)).number))
def RQ(F:Nat)(a1:aW):Option aq:=
 jn (fun(m3:iG)=>jn (fun(m13:iG)=>some (aq.mk m13 (none:Option ko))) (fun k12=>px F k12 a1.Numbers m3)) (fun k2=>py F k2 a1.Texts ([]:iG))
def Jo(F:Nat)(a1:aC)(a2:B8)(a3:B8)(a4:List bu)(a5:List aL):Option Bool:=
 if (a1.About==a2)=true then (Ln F a1.When).bind fun y7=>(RQ F (aW.mk a2 a3 a4 a5)).bind fun y9=>if y7.t∈([147,148,150,152,154,156,157,159]:List Nat) then (dP F y7 y9).bind fun y12=>some (y12==1) else none
 else some false
def gS(F:Nat)(a2:B8)(a3:B8)(a4:List bu)(a5:List aL)(k6:Option Int):List aC->Int->Option Int
  |[],n8=>k6
  |x10::tl1,n8=>(Jo F x10 a2 a3 a4 a5).bind fun y12=>if y12=true then some n8
 else gS F a2 a3 a4 a5 k6 tl1 (n8+1)
def za(F:Nat)(a1:(List aC))(a2:B8)(a3:B8)(a4:List bu)(a5:List aL):Option Int:=
 jn (some (-1)) (fun k6=>gS F a2 a3 a4 a5 k6 a1 0)
def Jx(F:Nat)(a1:aw)(a2:aW):Option Int:=
 (za F a1.Rules a2.Kind a2.Subject a2.Texts a2.Numbers).bind fun y3=>some y3
def Lw(F:Nat)(a1:B8)(a2:B8):Option Bool:=
 if (decide ((a1.length:Int)>=(a2.length:Int)))=true then if 0<=(bt ((a1.length:Int) - (a2.length:Int)))/\(bt ((a1.length:Int) - (a2.length:Int))).toNat<=a1.length then some ((a1.drop (bt ((a1.length:Int) - (a2.length:Int))).toNat)==a2) else none
 else some false
def LA(F:Nat)(a1:B8)(a2:B8):Option (B8×Bool):=
 (Lw F a1 a2).bind fun y3=>if (!y3)=true then some (a1,false)
 else if 0<=(bt ((a1.length:Int) - (a2.length:Int)))/\(bt ((a1.length:Int) - (a2.length:Int))).toNat<=a1.length then some ((a1.take (bt ((a1.length:Int) - (a2.length:Int))).toNat),true) else none
def Jm(F:Nat)(a1:B8)(a2:B8):Option (B8×Bool):=
 (LA F a1 a2).bind fun y3=>some ((y3.1),(y3.2))
def Jw(F:Nat)(a1:bN)(a2:B8):Option Bool:=
 (Jm F a1.Subject ([42]:B8)).bind fun y3=>if (y3.2)=true then (CE F a2 (y3.1)).bind fun y6=>some y6
 else some (a1.Subject==a2)
def nG(F:Nat)(x12:aW)(x20:aC)(k22:bx->Option (List aO)):List bN->Int->bx->Option (List aO)
  |[],n26,l27=>k22 l27
  |x31::tl2,n26,l27=>jn (fun(l30:bx)=>nG F x12 x20 k22 tl2 (n26+1) l30) (fun k29=>if (x31.Rule==x20.Name)=true then if (decide (x31.Level<x20.Level))=true then (Jw F x31 x12.Subject).bind fun y35=>jn (fun(l38:bx)=>k29 l38) (fun k37=>if y35=true then if (l27++([n26]:bx)).length*8<=140737488355328 then k37 (l27++([n26]:bx)) else none
 else k37 l27)
 else k29 l27
 else k29 l27)
def lO(F:Nat)(a1:aw)(k3:(List aO)->Option (List aO)):List aW->(List aO)->Option (List aO)
  |[],l8=>k3 l8
  |x12::tl1,l8=>jn (fun(l11:List aO)=>lO F a1 k3 tl1 l11) (fun k10=>(Jx F a1 x12).bind fun y14=>jn (fun(n17:Int) (l18:bx)=>if (l8++([(aO.mk y14 n17 l18)]:List aO)).length*40<=140737488355328 then k10 (l8++([(aO.mk y14 n17 l18)]:List aO)) else none) (fun k16=>if (decide (y14>=0))=true then (cH a1.Rules y14).bind fun x20=>jn (fun(l23:bx)=>k16 x20.Level l23) (fun k22=>nG F x12 x20 k22 a1.Waivers 0 ([]:bx))
 else k16 1 ([]:bx)))
def RL(F:Nat)(a1:aw)(a2:(List aW)):Option (List aO):=
 jn (fun(l4:List aO)=>some l4) (fun k3=>lO F a1 k3 a2 ([]:List aO))
def lP(F:Nat)(a1:aw)(a3:Int)(x13:aO)(k15:Int->Int->Option (List bE)):bx->Option (List bE)
  |[]=>k15 (-1) x13.level
  |x22::tl2=>jn (lP F a1 a3 x13 k15 tl2 ) (fun k21=>(cH a1.Waivers x22).bind fun x24=>if (decide (a3>=x24.From))=true then if (decide (a3<=x24.To))=true then k15 x22 x24.Level
 else k21
 else k21)
def nH(F:Nat)(a1:aw)(a3:Int)(k4:(List bE)->Option (List bE)):List aO->Int->(List bE)->Option (List bE)
 |[],n8,l9=>k4 l9
 |x13::tl1,n8,l9=>jn (fun(l12:List bE)=>nH F a1 a3 k4 tl1 (n8+1) l12) (fun k11=>jn (fun(n16:Int) (n17:Int)=>if (l9++([(bE.mk n8 x13.rule n16 n17)]:List bE)).length*32<=140737488355328 then k11 (l9++([(bE.mk n8 x13.rule n16 n17)]:List bE)) else none) (fun k15=>lP F a1 a3 x13 k15 x13.waivers))
def RN(F:Nat)(a1:aw)(a2:(List aO))(a3:Int):Option (List bE):=
 jn (fun(l5:List bE)=>some l5) (fun k4=>nH F a1 a3 k4 a2 0 ([]:List bE))
def PD(F:Nat)(a1:aw)(a2:(List aW))(a3:Int):Option ((List bE)×Int):=
 (RO F a1 a2 a3).bind fun y4=>if (y4 != 0)=true then some (([]:List bE),y4)
 else (RL F a1 a2).bind fun y7=>(RN F a1 y7 a3).bind fun y9=>some (y9,0)
def M7(F:Nat)(a1:aw)(a2:aw)(a3:B8)(a4:aW):Option Bool:=
 (FN F a1 a2 a3).bind fun y5=>(FM F a1 a2 a3).bind fun y7=>if ((y5.2.1) != (y7.2.1))=true then some false
 else if ((y5.2.2) != (y7.2.2))=true then some false
 else if ((y5.2.2) != 0)=true then (M2 F).bind fun y12=>some y12
 else jn (fun(s15:B8) (s16:B8) (l17:List bu) (l18:List aL)=>(PD F (aw.mk a1.Rules ([]:List bN)) ([(aW.mk s15 s16 l17 l18)]:List aW) 0).bind fun y20=>(PD F (aw.mk a2.Rules ([]:List bN)) ([(aW.mk s15 s16 l17 l18)]:List aW) 0).bind fun y22=>if ((y20.2) != 0)=true then if (!(y5.2.1))=true then (M2 F).bind fun y26=>some y26
 else some false
 else if ((y22.2) != 0)=true then if (!(y5.2.1))=true then (M2 F).bind fun y30=>some y30
 else some false
 else (cH (y20.1) 0).bind fun x32=>(cH (y22.1) 0).bind fun x34=>if ((x32.Level != x34.Level)==(y5.2.1))=true then (M2 F).bind fun y37=>some y37
 else some false) (fun k14=>if (!(y5.2.1))=true then k14 a3 a4.Subject a4.Texts a4.Numbers
 else k14 ((y5.1).Kind) ((y5.1).Subject) ((y5.1).Texts) ((y5.1).Numbers))
end
end Go.Proofs.YtelmfadihfcgnaaGreatDoor
