/- Part of the proof: D5M. -/
import Derived.Test.YtelmfadihfcgnaaGreatDoorDD5T
namespace Go.Proofs.YtelmfadihfcgnaaGreatDoor
open Go Go.Pv
set_option linter.unusedVariables false
set_option maxRecDepth 100000
noncomputable section
def M88(F:Nat)(a1:(List UInt8)):Option Bool:=
 jn (fun(b3:Bool)=>if b3=true then some true
 else some false) (fun k2=>if (a1==([114,117,108,101]:List UInt8))=true then k2 (a1==([114,117,108,101]:List UInt8))
 else if (a1==([97,98,111,117,116]:List UInt8))=true then k2 (a1==([97,98,111,117,116]:List UInt8))
 else if (a1==([119,104,101,110]:List UInt8))=true then k2 (a1==([119,104,101,110]:List UInt8))
 else if (a1==([119,97,105,118,101]:List UInt8))=true then k2 (a1==([119,97,105,118,101]:List UInt8))
 else if (a1==([102,111,114]:List UInt8))=true then k2 (a1==([102,111,114]:List UInt8))
 else if (a1==([102,114,111,109]:List UInt8))=true then k2 (a1==([102,114,111,109]:List UInt8))
 else if (a1==([116,111]:List UInt8))=true then k2 (a1==([116,111]:List UInt8))
 else if (a1==([98,121]:List UInt8))=true then k2 (a1==([98,121]:List UInt8))
 else if (a1==([97,115]:List UInt8))=true then k2 (a1==([97,115]:List UInt8))
 else if (a1==([112,97,115,115]:List UInt8))=true then k2 (a1==([112,97,115,115]:List UInt8))
 else if (a1==([110,111,116,101]:List UInt8))=true then k2 (a1==([110,111,116,101]:List UInt8))
 else if (a1==([119,97,114,110]:List UInt8))=true then k2 (a1==([119,97,114,110]:List UInt8))
 else if (a1==([100,101,110,121]:List UInt8))=true then k2 (a1==([100,101,110,121]:List UInt8))
 else if (a1==([111,114]:List UInt8))=true then k2 (a1==([111,114]:List UInt8))
 else if (a1==([97,110,100]:List UInt8))=true then k2 (a1==([97,110,100]:List UInt8))
 else if (a1==([116,114,117,101]:List UInt8))=true then k2 (a1==([116,114,117,101]:List UInt8))
 else if (a1==([105,115]:List UInt8))=true then k2 (a1==([105,115]:List UInt8))
 else if (a1==([98,101,103,105,110,115]:List UInt8))=true then k2 (a1==([98,101,103,105,110,115]:List UInt8))
 else if (a1==([104,97,115]:List UInt8))=true then k2 (a1==([104,97,115]:List UInt8))
 else k2 (a1==([110,111,116]:List UInt8)))
def M31_L1(F:Nat)(a1:(List UInt8))(k2:Option Bool):Nat->Int->Option Bool
  |0,n4=>k2
  |tl1+1,n4=>jn (M31_L1 F a1 k2 tl1 (n4+1)) (fun k6=>(idx a1 n4).bind fun c7=>if (decide ((c7.toNat:Int)>=97))=true then if (decide ((c7.toNat:Int)<=122))=true then k6
 else if (decide (n4>0))=true then if (decide ((c7.toNat:Int)>=48))=true then if (decide ((c7.toNat:Int)<=57))=true then k6
 else if (!((c7.toNat:Int)==45))=true then some false
 else k6
 else if (!((c7.toNat:Int)==45))=true then some false
 else k6
 else some false
 else if (decide (n4>0))=true then if (decide ((c7.toNat:Int)>=48))=true then if (decide ((c7.toNat:Int)<=57))=true then k6
 else if (!((c7.toNat:Int)==45))=true then some false
 else k6
 else if (!((c7.toNat:Int)==45))=true then some false
 else k6
 else some false)
def M31(F:Nat)(a1:(List UInt8)):Option Bool:=
 jn (if (!(a1==([]:List UInt8)))=true then if (decide ((a1.length:Int)<=40))=true then (M88 F a1).bind fun y24=>some (!y24)
 else some false
 else some false) (fun k2=>if (a1.length:Int)<=9223372036854775807 then M31_L1 F a1 k2 (((a1.length:Int):Int).toNat) 0 else none)
def M86_L1(R86:TTest->Int->Option (Int×Int))(F:Nat)(a2:Int)(k4:Int->Int->Option (Int×Int)):List KRow->Int->Int->Option (Int×Int)
 |[],n10,n11=>k4 n10 n11
 |x14::tl1,n10,n11=>(kdec encTTest x14).bind fun y16=>(R86 y16 (w64 (a2+1))).bind fun y18=>M86_L1 R86 F a2 k4 tl1 (if 61<(w64 (n10+(y18.1))) then 61 else (w64 (n10+(y18.1)))) (if (y18.2)>n11 then (y18.2) else n11)
def M86_B(R86:TTest->Int->Option (Int×Int))(F:Nat)(a1:TTest)(a2:Int):Option (Int×Int):=
 if (decide (a2>12))=true then some (1,a2)
 else jn (fun(n5:Int) (n6:Int)=>some (n5,n6)) (fun k4=>M86_L1 R86 F a2 k4 a1.Kids 1 a2)
def M86:Nat->TTest->Int->Option (Int×Int)
 |0,_,_=>none
 |F+1,a1,a2=>M86_B (M86 F) F a1 a2
def M128(F:Nat):Option (Nat->Tpolicy_uses):=
 some (arrOf (Tpolicy_uses.mk false false false 0) [(Tpolicy_uses.mk false false false 0),(Tpolicy_uses.mk false false false 0),(Tpolicy_uses.mk true true false 0),(Tpolicy_uses.mk true true false 0),(Tpolicy_uses.mk true false false 0),(Tpolicy_uses.mk true false true 0),(Tpolicy_uses.mk false false false 1),(Tpolicy_uses.mk false false false (-1)),(Tpolicy_uses.mk false false false (-1))])
def M129(F:Nat)(a1:TTest):Option Bool:=
 (M128 F).bind fun y2=>if 0<=a1.Kind/\a1.Kind.toNat<9 then if (!(y2 a1.Kind.toNat).name)=true then if (!(a1.Name==([]:List UInt8)))=true then some false
 else if (!(y2 a1.Kind.toNat).texts)=true then if (decide (((a1.Texts.length:Nat):Int)>0))=true then some false
 else if (!(y2 a1.Kind.toNat).number)=true then if (a1.Op != 0)=true then some false
 else if (a1.N != 0)=true then some false
 else if (decide ((y2 a1.Kind.toNat).kids<0))=true then some (decide (((a1.Kids.length:Nat):Int)>=2))
 else some (((a1.Kids.length:Nat):Int)==(y2 a1.Kind.toNat).kids)
 else if (decide ((y2 a1.Kind.toNat).kids<0))=true then some (decide (((a1.Kids.length:Nat):Int)>=2))
 else some (((a1.Kids.length:Nat):Int)==(y2 a1.Kind.toNat).kids)
 else if (!(y2 a1.Kind.toNat).number)=true then if (a1.Op != 0)=true then some false
 else if (a1.N != 0)=true then some false
 else if (decide ((y2 a1.Kind.toNat).kids<0))=true then some (decide (((a1.Kids.length:Nat):Int)>=2))
 else some (((a1.Kids.length:Nat):Int)==(y2 a1.Kind.toNat).kids)
 else if (decide ((y2 a1.Kind.toNat).kids<0))=true then some (decide (((a1.Kids.length:Nat):Int)>=2))
 else some (((a1.Kids.length:Nat):Int)==(y2 a1.Kind.toNat).kids)
 else if (!(y2 a1.Kind.toNat).texts)=true then if (decide (((a1.Texts.length:Nat):Int)>0))=true then some false
 else if (!(y2 a1.Kind.toNat).number)=true then if (a1.Op != 0)=true then some false
 else if (a1.N != 0)=true then some false
 else if (decide ((y2 a1.Kind.toNat).kids<0))=true then some (decide (((a1.Kids.length:Nat):Int)>=2))
 else some (((a1.Kids.length:Nat):Int)==(y2 a1.Kind.toNat).kids)
 else if (decide ((y2 a1.Kind.toNat).kids<0))=true then some (decide (((a1.Kids.length:Nat):Int)>=2))
 else some (((a1.Kids.length:Nat):Int)==(y2 a1.Kind.toNat).kids)
 else if (!(y2 a1.Kind.toNat).number)=true then if (a1.Op != 0)=true then some false
 else if (a1.N != 0)=true then some false
 else if (decide ((y2 a1.Kind.toNat).kids<0))=true then some (decide (((a1.Kids.length:Nat):Int)>=2))
 else some (((a1.Kids.length:Nat):Int)==(y2 a1.Kind.toNat).kids)
 else if (decide ((y2 a1.Kind.toNat).kids<0))=true then some (decide (((a1.Kids.length:Nat):Int)>=2))
 else some (((a1.Kids.length:Nat):Int)==(y2 a1.Kind.toNat).kids) else none
def M105_L1(F:Nat)(a1:(List UInt8))(k2:Option Bool):Nat->Int->Option Bool
  |0,n4=>k2
  |tl1+1,n4=>(idx a1 n4).bind fun c6=>if (decide ((c6.toNat:Int)<32))=true then some false
 else (idx a1 n4).bind fun c9=>if (decide ((c9.toNat:Int)>126))=true then some false
 else M105_L1 F a1 k2 tl1 (n4+1)
def M105(F:Nat)(a1:(List UInt8)):Option Bool:=
 jn (some (decide ((a1.length:Int)<=1000))) (fun k2=>if (a1.length:Int)<=9223372036854775807 then M105_L1 F a1 k2 (((a1.length:Int):Int).toNat) 0 else none)
def M130_L1(F:Nat)(a1:(List (List UInt8)))(k4:Option Int):List (List UInt8)->Int->Option Int
  |[],n6=>k4
  |x8::tl1,n6=>(M105 F x8).bind fun y10=>jn (M130_L1 F a1 k4 tl1 (n6+1)) (fun k12=>if (!y10)=true then some 2
 else if (decide (n6>0))=true then (idx a1 (w64 (n6 - 1))).bind fun x15=>if (Op.bytesLess x8 x15||x8==x15)=true then some 10
 else k12
 else k12)
def M130(F:Nat)(a1:(List (List UInt8))):Option Int:=
 if (((a1.length:Nat):Int)==0)=true then some 13
 else if (decide (((a1.length:Nat):Int)>50))=true then some 3
 else jn (some 0) (fun k4=>M130_L1 F a1 k4 a1 0)
def M106(F:Nat)(a1:Int):Option Bool:=
 if (decide (a1>=(-1000000000000)))=true then some (decide (a1<=1000000000000))
 else some false
def M87_L1(R87:TTest->Option Int)(F:Nat)(k27:Option Int):List KRow->Option Int
  |[]=>k27
  |x31::tl1=>(kdec encTTest x31).bind fun y33=>(R87 y33).bind fun y35=>if (y35 != 0)=true then some y35
 else M87_L1 R87 F k27 tl1
def M87_B(R87:TTest->Option Int)(F:Nat)(a1:TTest):Option Int:=
 if (decide (a1.Kind<1))=true then some 7
 else if (decide (a1.Kind>8))=true then some 7
 else (M128 F).bind fun y4=>if 0<=a1.Kind/\a1.Kind.toNat<9 then (M129 F a1).bind fun y7=>jn (jn (jn (jn (some 0) (fun k27=>M87_L1 R87 F k27 a1.Kids)) (fun k20=>if (y4 a1.Kind.toNat).number=true then if (decide (a1.Op<1))=true then some 7
 else if (decide (a1.Op>5))=true then some 7
 else (M106 F a1.N).bind fun y24=>if (!y24)=true then some 9
 else k20
 else k20)) (fun k15=>if (y4 a1.Kind.toNat).texts=true then (M130 F a1.Texts).bind fun y17=>if (y17 != 0)=true then some y17
 else k15
 else k15)) (fun k9=>if (!y7)=true then some 2
 else if (y4 a1.Kind.toNat).name=true then (M31 F a1.Name).bind fun y12=>if (!y12)=true then some 8
 else k9
 else k9) else none
def M87:Nat->TTest->Option Int
 |0,_=>none
 |F+1,a1=>M87_B (M87 F) F a1
def M30(F:Nat)(a1:TTest):Option Int:=
 (M86 F a1 1).bind fun y2=>if (decide ((y2.1)>60))=true then some 3
 else if (decide ((y2.2)>12))=true then some 3
 else (M87 F a1).bind fun y6=>some y6
def M149(F:Nat)(a1:(List UInt8))(a2:Int):Option Int:=some (Lib.indexByte a1 a2.toNat.toUInt8)
def M151(F:Nat)(a1:TPolicyRule)(a2:List UInt8)(a3:List UInt8)(a4:Int)(a5:Int)(a6:List UInt8)(a7:Int):Option Bool:=
 some (a1.Name==a2)
def M163_L1(F:Nat)(a2:List UInt8)(a3:List UInt8)(a4:Int)(a5:Int)(a6:List UInt8)(a7:Int)(k8:Option Int):List TPolicyRule->Int->Option Int
  |[],n10=>k8
  |x12::tl1,n10=>(M151 F x12 a2 a3 a4 a5 a6 a7).bind fun y14=>if y14=true then some n10
 else M163_L1 F a2 a3 a4 a5 a6 a7 k8 tl1 (n10+1)
def M163(F:Nat)(a1:(List TPolicyRule))(a2:List UInt8)(a3:List UInt8)(a4:Int)(a5:Int)(a6:List UInt8)(a7:Int):Option Int:=
 jn (some (-1)) (fun k8=>M163_L1 F a2 a3 a4 a5 a6 a7 k8 a1 0)
def M150(F:Nat)(a1:(List TPolicyRule))(a2:List UInt8)(a3:List UInt8)(a4:Int)(a5:Int)(a6:List UInt8)(a7:Int):Option Bool:=
 (M163 F a1 a2 a3 a4 a5 a6 a7).bind fun y8=>some (decide (y8>=0))
def M113(F:Nat)(a1:TPolicy)(a2:TWaiver):Option Int:=
 (M149 F a2.Subject 42).bind fun y3=>(M150 F a1.Rules a2.Rule a2.Subject a2.From a2.To a2.Owner a2.Level).bind fun y5=>jn (some 0) (fun k7=>if (!y5)=true then some 4
 else (M105 F a2.Subject).bind fun y9=>if (!y9)=true then some 2
 else if (decide (y3>=0))=true then if (decide (y3<(w64 ((a2.Subject.length:Int) - 1))))=true then some 2
 else if (decide (a2.From<0))=true then some 9
 else if (decide (a2.From>a2.To))=true then some 9
 else if (decide (a2.To>1000000))=true then some 9
 else (M31 F a2.Owner).bind fun y17=>if (!y17)=true then some 8
 else if (decide (a2.Level<1))=true then some 7
 else if (decide (a2.Level>3))=true then some 7
 else k7
 else if (decide (a2.From<0))=true then some 9
 else if (decide (a2.From>a2.To))=true then some 9
 else if (decide (a2.To>1000000))=true then some 9
 else (M31 F a2.Owner).bind fun y25=>if (!y25)=true then some 8
 else if (decide (a2.Level<1))=true then some 7
 else if (decide (a2.Level>3))=true then some 7
 else k7)
def M54_L2(F:Nat)(a1:TPolicy)(k25:Option Int):List TWaiver->Option Int
  |[]=>k25
  |x29::tl2=>(M113 F a1 x29).bind fun y31=>if (y31 != 0)=true then some y31
 else M54_L2 F a1 k25 tl2
def M54_L1(F:Nat)(k4:Option Int):List TPolicyRule->(List ((List UInt8)×Bool))->Option Int
  |[],m8=>k4
  |x10::tl1,m8=>(M31 F x10.Name).bind fun y12=>if (!y12)=true then some 8
 else if ((mget m8 x10.Name).getD false)=true then some 5
 else (M31 F x10.About).bind fun y16=>if (!y16)=true then some 8
 else (M30 F x10.When).bind fun y19=>if (y19 != 0)=true then some y19
 else if (decide (x10.Level<1))=true then some 7
 else if (decide (x10.Level>4))=true then some 7
 else M54_L1 F k4 tl1 (mput m8 x10.Name true)
def M54(F:Nat)(a1:TPolicy):Option Int:=
 if (decide (((a1.Rules.length:Nat):Int)>100))=true then some 3
 else if (decide (((a1.Waivers.length:Nat):Int)>200))=true then some 3
 else jn (jn (some 0) (fun k25=>M54_L2 F a1 k25 a1.Waivers)) (fun k4=>M54_L1 F k4 a1.Rules ([]:List ((List UInt8)×Bool)))
def M55_L1(F:Nat)(a2:(List UInt8))(k3:(List Int)->Option (List Int)):List TPolicyRule->Int->(List Int)->Option (List Int)
  |[],n7,l8=>k3 l8
  |x10::tl1,n7,l8=>jn (fun(l13:List Int)=>M55_L1 F a2 k3 tl1 (n7+1) l13) (fun k12=>if (x10.About==a2)=true then if (l8++([n7]:List Int)).length*8<=140737488355328 then k12 (l8++([n7]:List Int)) else none
 else k12 l8)
def M55(F:Nat)(a1:TPolicy)(a2:(List UInt8)):Option (List Int):=
 jn (fun(l4:List Int)=>some l4) (fun k3=>M55_L1 F a2 k3 a1.Rules 0 ([]:List Int))
def M32_L1(R32:TTest->Option KV)(F:Nat)(k2:(List KV)->Option KV):List KRow->(List KV)->Option KV
 |[],l7=>k2 l7
 |x9::tl1,l7=>(kdec encTTest x9).bind fun y11=>(R32 y11).bind fun y13=>if (l7++([y13]:List KV)).length*16<=140737488355328 then M32_L1 R32 F k2 tl1 (l7++([y13]:List KV)) else none
def M32_B(R32:TTest->Option KV)(F:Nat)(a1:TTest):Option KV:=
 jn (fun(l3:List KV)=>if (a1.Kind==2)=true then some (mkK 147 encTpolicy_condIs (Tpolicy_condIs.mk a1.Name a1.Texts))
 else if (a1.Kind==3)=true then some (mkK 148 encTpolicy_condBegins (Tpolicy_condBegins.mk a1.Name a1.Texts))
 else if (a1.Kind==4)=true then some (mkK 150 encTpolicy_condHas (Tpolicy_condHas.mk a1.Name))
 else if (a1.Kind==5)=true then some (mkK 152 encTpolicy_condNumber (Tpolicy_condNumber.mk a1.Name a1.Op a1.N))
 else if (a1.Kind==6)=true then (idx l3 0).bind fun x22=>some (mkK 154 encTpolicy_condNot (Tpolicy_condNot.mk x22))
 else if (a1.Kind==7)=true then some (mkK 156 encTpolicy_condAll (Tpolicy_condAll.mk l3))
 else if (a1.Kind==8)=true then some (mkK 157 encTpolicy_condAny (Tpolicy_condAny.mk l3))
 else some (mkK 159 encTpolicy_condTrue Tpolicy_condTrue.mk)) (fun k2=>M32_L1 R32 F k2 a1.Kids ([]:List KV))
def M32:Nat->TTest->Option KV
 |0,_=>none
 |F+1,a1=>M32_B (M32 F) F a1
def M89(F:Nat)(a1:(List UInt8))(a2:List ((List UInt8)×(Option Tpolicy_subject))):Option (List ((List UInt8)×(Option Tpolicy_subject))×Tpolicy_subject):=match mget a2 a1 with
 |none=>some (mput a2 a1 (some (Tpolicy_subject.mk [] [] [] false false false 2)),(Tpolicy_subject.mk [] [] [] false false false 2))
 |some none=>none
 |some (some s)=>some (a2,s)
def M33_L1(R33:KV->(List ((List UInt8)×(Option Tpolicy_subject)))->Option (List ((List UInt8)×(Option Tpolicy_subject))))(F:Nat)(k93:(List ((List UInt8)×(Option Tpolicy_subject)))->Option (List ((List UInt8)×(Option Tpolicy_subject)))):List KV->(List ((List UInt8)×(Option Tpolicy_subject)))->Option (List ((List UInt8)×(Option Tpolicy_subject)))
 |[],m98=>k93 m98
 |x100::tl1,m98=>(R33 x100 m98).bind fun y102=>M33_L1 R33 F k93 tl1 y102
def M33_B(R33:KV->(List ((List UInt8)×(Option Tpolicy_subject)))->Option (List ((List UInt8)×(Option Tpolicy_subject))))(F:Nat)(a1:KV)(a2:List ((List UInt8)×(Option Tpolicy_subject))):Option (List ((List UInt8)×(Option Tpolicy_subject))):=
 if Nat.beq a1.t 147=true then (vdec encTpolicy_condIs 147 a1).bind fun y63=>(M89 F y63.name a2).bind fun y65=>if ((y65.2).is++y63.texts).length*16<=140737488355328 then some (mput (y65.1) y63.name (some (Tpolicy_subject.mk ((y65.2).is++y63.texts) (y65.2).begins (y65.2).numbers true (y65.2).asNo (y65.2).has (w64 ((y65.2).weight+((y63.texts.length:Nat):Int)))))) else none
 else if Nat.beq a1.t 148=true then (vdec encTpolicy_condBegins 148 a1).bind fun y69=>(M89 F y69.name a2).bind fun y71=>if ((y71.2).begins++y69.texts).length*16<=140737488355328 then some (mput (y71.1) y69.name (some (Tpolicy_subject.mk (y71.2).is ((y71.2).begins++y69.texts) (y71.2).numbers true (y71.2).asNo (y71.2).has (w64 ((y71.2).weight+(w64 (2*((y69.texts.length:Nat):Int)))))))) else none
 else if Nat.beq a1.t 150=true then (vdec encTpolicy_condHas 150 a1).bind fun y75=>(M89 F y75.name a2).bind fun y77=>some (mput (y77.1) y75.name (some (Tpolicy_subject.mk (y77.2).is (y77.2).begins (y77.2).numbers (y77.2).asText (y77.2).asNo true (y77.2).weight)))
 else if Nat.beq a1.t 152=true then (vdec encTpolicy_condNumber 152 a1).bind fun y80=>(M89 F y80.name a2).bind fun y82=>if ((y82.2).numbers++([y80.n]:List Int)).length*8<=140737488355328 then some (mput (y82.1) y80.name (some (Tpolicy_subject.mk (y82.2).is (y82.2).begins ((y82.2).numbers++([y80.n]:List Int)) (y82.2).asText true (y82.2).has (w64 ((y82.2).weight+2))))) else none
 else if Nat.beq a1.t 154=true then (vdec encTpolicy_condNot 154 a1).bind fun y86=>(R33 y86.kid a2).bind fun y88=>some y88
 else if Nat.beq a1.t 156=true then (vdec encTpolicy_condAll 156 a1).bind fun y91=>jn (fun(m94:List ((List UInt8)×(Option Tpolicy_subject)))=>some m94) (fun k93=>M33_L1 R33 F k93 y91.kids a2)
 else if Nat.beq a1.t 157=true then (vdec encTpolicy_condAny 157 a1).bind fun y106=>jn (fun(m109:List ((List UInt8)×(Option Tpolicy_subject)))=>some m109) (fun k108=>M33_L1 R33 F k108 y106.kids a2)
 else some a2
def M33:Nat->KV->(List ((List UInt8)×(Option Tpolicy_subject)))->Option (List ((List UInt8)×(Option Tpolicy_subject)))
 |0,_,_=>none
 |F+1,a1,a2=>M33_B (M33 F) F a1 a2
def M56_L1(F:Nat)(a1:TPolicy)(k26:(List ((List UInt8)×(Option Tpolicy_subject)))->(List KV)->Option ((List ((List UInt8)×(Option Tpolicy_subject)))×(List KV))):List Int->(List ((List UInt8)×(Option Tpolicy_subject)))->(List KV)->Option ((List ((List UInt8)×(Option Tpolicy_subject)))×(List KV))
 |[],m33,l34=>k26 m33 l34
 |x36::tl1,m33,l34=>(idx a1.Rules x36).bind fun x38=>(M32 F x38.When).bind fun y40=>(M33 F y40 m33).bind fun y42=>if (l34++([y40]:List KV)).length*16<=140737488355328 then M56_L1 F a1 k26 tl1 y42 (l34++([y40]:List KV)) else none
def M56(F:Nat)(a1:TPolicy)(a2:(List Int))(a3:List ((List UInt8)×(Option Tpolicy_subject))):Option ((List ((List UInt8)×(Option Tpolicy_subject)))×(List KV)):=
 jn (fun(m27:List ((List UInt8)×(Option Tpolicy_subject))) (l28:List KV)=>some (m27,l28)) (fun k26=>M56_L1 F a1 k26 a2 a3 ([]:List KV))
def M34_L1(F:Nat):List ((List UInt8)×(Option Tpolicy_subject))->Int->Option Bool
  |[],n4=>some true
  |e6::l7,n4=>if (1<=n4/\n4<=200000)/\((e6::l7).all fun p=>match p.2 with|some s=>decide (1<=s.weight/\s.weight<=1000000000000)|none=>false)=true then (e6.2).bind fun x9=>if x9.has=true then if (decide ((w64 (n4*(w64 (x9.weight+1))))>200000))=true then some false
 else M34_L1 F l7 (w64 (n4*(w64 (x9.weight+1))))
 else if x9.asText=true then jn (fun(n15:Int)=>if (decide ((w64 (n4*n15))>200000))=true then some false
 else M34_L1 F l7 (w64 (n4*n15))) (fun k14=>if x9.asNo=true then k14 (w64 (x9.weight+1))
 else k14 x9.weight)
 else if (decide ((w64 (n4*x9.weight))>200000))=true then some false
 else M34_L1 F l7 (w64 (n4*x9.weight)) else none
def M34(F:Nat)(a1:(List ((List UInt8)×(Option Tpolicy_subject)))):Option Bool:=
 M34_L1 F a1 1
def M59(F:Nat)(a1:List Int):Option (List Int):=if a1.length<4611686018427387904 then some (isort a1) else none
def M186(F:Nat)(a1:List Int):Option (List Int):=if a1.length<=140737488355328 then some (cpt a1) else none
def M131_L2(F:Nat)(x11:Int)(k13:(List Int)->Option (List Int)):Nat->Int->(List Int)->Option (List Int)
  |0,n17,l18=>k13 l18
  |tl2+1,n17,l18=>(idx ([(w64 (x11 - 1)),x11,(w64 (x11+1))]:List Int) n17).bind fun x20=>(M106 F x20).bind fun y22=>jn (fun(l25:List Int)=>M131_L2 F x11 k13 tl2 (n17+1) l25) (fun k24=>if y22=true then if (l18++([x20]:List Int)).length*8<=140737488355328 then k24 (l18++([x20]:List Int)) else none
 else k24 l18)
def M131_L1(F:Nat)(k2:(List Int)->Option (List Int)):List Int->(List Int)->Option (List Int)
 |[],l7=>k2 l7
 |x11::tl1,l7=>jn (fun(l10:List Int)=>M131_L1 F k2 tl1 l10) (fun k9=>jn (fun(l14:List Int)=>k9 l14) (fun k13=>if ((3:Nat):Int)<=9223372036854775807 then M131_L2 F x11 k13 ((((3:Nat):Int):Int).toNat) 0 l7 else none))
def M131(F:Nat)(a1:Tpolicy_subject):Option (List Int):=
 jn (fun(l3:List Int)=>(M59 F l3).bind fun y30=>if y30.length=l3.length then (M186 F y30).bind fun y33=>some y33 else none) (fun k2=>M131_L1 F k2 a1.numbers ([0]:List Int))
def M29(F:Nat)(a1:(List (List UInt8))):Option (List (List UInt8)):=
 nilq a1.length (fun b7=>if b7=true then some ([]:List (List UInt8))
 else if (([]:List (List UInt8))++a1).length*16<=140737488355328 then some (([]:List (List UInt8))++a1) else none)
def M121_L1(F:Nat)(a2:(List UInt8))(k3:Option Int):List (List UInt8)->Int->Option Int
  |[],n5=>k3
  |x7::tl1,n5=>if (a2==x7)=true then some n5
 else M121_L1 F a2 k3 tl1 (n5+1)
def M121(F:Nat)(a1:(List (List UInt8)))(a2:(List UInt8)):Option Int:=
 jn (some (-1)) (fun k3=>M121_L1 F a2 k3 a1 0)
def M74(F:Nat)(a1:(List (List UInt8)))(a2:(List UInt8)):Option Bool:=
 (M121 F a1 a2).bind fun y3=>some (decide (y3>=0))
def M190(F:Nat)(a1:(List UInt8))(a2:(List UInt8)):Option Bool:=
 if (decide ((a1.length:Int)>=(a2.length:Int)))=true then if 0<=(a2.length:Int)/\(a2.length:Int).toNat<=a1.length then some ((a1.take (a2.length:Int).toNat)==a2) else none
 else some false
def M138(F:Nat)(a1:(List UInt8))(a2:(List UInt8)):Option Bool:=
 (M190 F a1 a2).bind fun y3=>some y3
def M238(F:Nat)(a1:(List UInt8))(a2:Int)(a3:List UInt8):Option Bool:=
 if (decide ((a1.length:Int)>a2))=true then (M138 F a3 a1).bind fun y5=>some y5
 else some false
def M247_L1(F:Nat)(a2:Int)(a3:List UInt8)(k4:Option Int):List (List UInt8)->Int->Option Int
  |[],n6=>k4
  |x8::tl1,n6=>(M238 F x8 a2 a3).bind fun y10=>if y10=true then some n6
 else M247_L1 F a2 a3 k4 tl1 (n6+1)
def M247(F:Nat)(a1:(List (List UInt8)))(a2:Int)(a3:List UInt8):Option Int:=
 jn (some (-1)) (fun k4=>M247_L1 F a2 a3 k4 a1 0)
def M237(F:Nat)(a1:(List (List UInt8)))(a2:Int)(a3:List UInt8):Option Bool:=
 (M247 F a1 a2 a3).bind fun y4=>some (decide (y4>=0))
def M223(F:Nat)(a1:(List UInt8))(a2:(List (List UInt8)))(a3:Int):Option Bool:=
 (M237 F a2 a3 a1).bind fun y4=>some y4
def M187_L2(F:Nat)(a1:(List UInt8))(a2:(List (List UInt8)))(a3:(List (List UInt8)))(x12:(List UInt8))(k18:(List (List UInt8))->Option ((List UInt8)×Bool)):Nat->Int->(List (List UInt8))->Option ((List UInt8)×Bool)
 |0,_,_=>none
 |n+1,n22,l23=>if (decide (n22<=126))=true then jn (fun(l26:List (List UInt8))=>M187_L2 F a1 a2 a3 x12 k18 n (IntKind.wrap .u8 (n22+1)) l26) (fun k25=>if x12.length+(Utf8.encode (IntKind.wrap .i32 n22)).data.toList.length<=9223372036854775807 then (M223 F (x12++(Utf8.encode (IntKind.wrap .i32 n22)).data.toList) a2 (a1.length:Int)).bind fun y28=>if y28=true then k25 l23
 else (M74 F a3 (x12++(Utf8.encode (IntKind.wrap .i32 n22)).data.toList)).bind fun y31=>if (!y31)=true then some ((x12++(Utf8.encode (IntKind.wrap .i32 n22)).data.toList),true)
 else if (l23++([(x12++(Utf8.encode (IntKind.wrap .i32 n22)).data.toList)]:List (List UInt8))).length*16<=140737488355328 then k25 (l23++([(x12++(Utf8.encode (IntKind.wrap .i32 n22)).data.toList)]:List (List UInt8))) else none else none)
 else k18 l23
def M187_L1(F:Nat)(a1:(List UInt8))(a2:(List (List UInt8)))(a3:(List (List UInt8)))(k4:Option ((List UInt8)×Bool)):Nat->Int->(List (List UInt8))->Option ((List UInt8)×Bool)
 |0,_,_=>none
 |n+1,n7,l8=>if (decide (n7<((l8.length:Nat):Int)))=true then jn (fun(l11:List (List UInt8))=>M187_L1 F a1 a2 a3 k4 n (w64 (n7+1)) l11) (fun k10=>(idx l8 n7).bind fun x12=>(M74 F a3 x12).bind fun y14=>if (!y14)=true then some (x12,true)
 else if ((x12.length:Int)==1000)=true then k10 l8
 else jn (fun(l19:List (List UInt8))=>k10 l19) (fun k18=>M187_L2 F a1 a2 a3 x12 k18 F 32 l8))
 else k4
def M187(F:Nat)(a1:(List UInt8))(a2:(List (List UInt8)))(a3:(List (List UInt8))):Option ((List UInt8)×Bool):=
 jn (some (([]:List UInt8),false)) (fun k4=>M187_L1 F a1 a2 a3 k4 F 0 ([a1]:List (List UInt8)))
def M109(F:Nat)(a1:List (List UInt8)):Option (List (List UInt8)):=if a1.length<4611686018427387904 then some (tsort a1) else none
def M188(F:Nat)(a1:List (List UInt8)):Option (List (List UInt8)):=if a1.length<=140737488355328 then some (cpt a1) else none
def M132_L1(F:Nat)(a1:Tpolicy_subject)(k10:(List (List UInt8))->Option (List (List UInt8))):List (List UInt8)->(List (List UInt8))->Option (List (List UInt8))
  |[],l15=>k10 l15
  |x17::tl1,l15=>(M187 F x17 a1.begins a1.is).bind fun y19=>jn (fun(l22:List (List UInt8))=>M132_L1 F a1 k10 tl1 l22) (fun k21=>if (y19.2)=true then if (l15++([(y19.1)]:List (List UInt8))).length*16<=140737488355328 then k21 (l15++([(y19.1)]:List (List UInt8))) else none
 else k21 l15)
def M132(F:Nat)(a1:Tpolicy_subject):Option (List (List UInt8)):=
 (M29 F a1.is).bind fun y2=>(M74 F a1.begins ([]:List UInt8)).bind fun y4=>jn (fun(l7:List (List UInt8))=>jn (fun(l11:List (List UInt8))=>(M109 F l11).bind fun y26=>if y26.length=l11.length then (M188 F y26).bind fun y29=>some y29 else none) (fun k10=>M132_L1 F a1 k10 l7 y2)) (fun k6=>if (!y4)=true then if (([([]:List UInt8)]:List (List UInt8))++a1.begins).length*16<=140737488355328 then k6 (([([]:List UInt8)]:List (List UInt8))++a1.begins) else none
 else k6 a1.begins)
def M90_L4(R0:((List (Tpolicy_value×Bool))×(List ((List UInt8)×(List Tpolicy_value))))->Tpolicy_value->Option ((List (Tpolicy_value×Bool))×(List ((List UInt8)×(List Tpolicy_value)))))(F:Nat)(x51:(List UInt8))(k53:(List (Tpolicy_value×Bool))->(List ((List UInt8)×(List Tpolicy_value)))->Option ((List (Tpolicy_value×Bool))×(List ((List UInt8)×(List Tpolicy_value))))):List Tpolicy_value->(List (Tpolicy_value×Bool))->(List ((List UInt8)×(List Tpolicy_value)))->Option ((List (Tpolicy_value×Bool))×(List ((List UInt8)×(List Tpolicy_value))))
 |[],m60,m61=>k53 m60 m61
 |x63::tl4,m60,m61=>(R0 (m60,m61) (Tpolicy_value.mk true x63.hasNumber x51 x63.number)).bind fun y65=>M90_L4 R0 F x51 k53 tl4 (y65.1) (y65.2)
def M90_L3(R0:((List (Tpolicy_value×Bool))×(List ((List UInt8)×(List Tpolicy_value))))->Tpolicy_value->Option ((List (Tpolicy_value×Bool))×(List ((List UInt8)×(List Tpolicy_value)))))(F:Nat)(l12:List Tpolicy_value):List (List UInt8)->(List (Tpolicy_value×Bool))->(List ((List UInt8)×(List Tpolicy_value)))->Option ((List (Tpolicy_value×Bool))×(List ((List UInt8)×(List Tpolicy_value))))
 |[],m45,m46=>some (m45,m46)
 |x51::tl3,m45,m46=>jn (fun(m49:List (Tpolicy_value×Bool)) (m50:List ((List UInt8)×(List Tpolicy_value)))=>M90_L3 R0 F l12 tl3 m49 m50) (fun k48=>jn (fun(m54:List (Tpolicy_value×Bool)) (m55:List ((List UInt8)×(List Tpolicy_value)))=>k48 m54 m55) (fun k53=>M90_L4 R0 F x51 k53 l12 m45 m46))
def M90_L2(R0:((List (Tpolicy_value×Bool))×(List ((List UInt8)×(List Tpolicy_value))))->Tpolicy_value->Option ((List (Tpolicy_value×Bool))×(List ((List UInt8)×(List Tpolicy_value)))))(F:Nat)(k22:(List (Tpolicy_value×Bool))->(List ((List UInt8)×(List Tpolicy_value)))->Option ((List (Tpolicy_value×Bool))×(List ((List UInt8)×(List Tpolicy_value))))):List Tpolicy_value->(List (Tpolicy_value×Bool))->(List ((List UInt8)×(List Tpolicy_value)))->Option ((List (Tpolicy_value×Bool))×(List ((List UInt8)×(List Tpolicy_value))))
 |[],m29,m30=>k22 m29 m30
 |x32::tl2,m29,m30=>(R0 (m29,m30) x32).bind fun y34=>M90_L2 R0 F k22 tl2 (y34.1) (y34.2)
def M90_L1(F:Nat)(k11:(List Tpolicy_value)->Option ((List (Tpolicy_value×Bool))×(List ((List UInt8)×(List Tpolicy_value))))):List Int->(List Tpolicy_value)->Option ((List (Tpolicy_value×Bool))×(List ((List UInt8)×(List Tpolicy_value))))
 |[],l16=>k11 l16
 |x18::tl1,l16=>if (l16++([(Tpolicy_value.mk false true ([]:List UInt8) x18)]:List Tpolicy_value)).length*32<=140737488355328 then M90_L1 F k11 tl1 (l16++([(Tpolicy_value.mk false true ([]:List UInt8) x18)]:List Tpolicy_value)) else none
def M90(R0:((List (Tpolicy_value×Bool))×(List ((List UInt8)×(List Tpolicy_value))))->Tpolicy_value->Option ((List (Tpolicy_value×Bool))×(List ((List UInt8)×(List Tpolicy_value)))))(F:Nat)(a1:List (List UInt8))(a2:List (List UInt8))(a3:List Int)(a4:Bool)(a5:Bool)(a6:Bool)(a7:Int)(q0:List (Tpolicy_value×Bool))(q1:List ((List UInt8)×(List Tpolicy_value))):Option ((List (Tpolicy_value×Bool))×(List ((List UInt8)×(List Tpolicy_value)))):=
 if a5=true then (M131 F (Tpolicy_subject.mk a1 a2 a3 a4 a5 a6 a7)).bind fun y9=>jn (fun(l12:List Tpolicy_value)=>jn (fun(m23:List (Tpolicy_value×Bool)) (m24:List ((List UInt8)×(List Tpolicy_value)))=>if (!a4)=true then if (!a6)=true then some (m23,m24)
 else (M132 F (Tpolicy_subject.mk a1 a2 a3 a4 a5 a6 a7)).bind fun y39=>M90_L3 R0 F l12 y39 m23 m24
 else (M132 F (Tpolicy_subject.mk a1 a2 a3 a4 a5 a6 a7)).bind fun y69=>M90_L3 R0 F l12 y69 m23 m24) (fun k22=>M90_L2 R0 F k22 l12 q0 q1)) (fun k11=>M90_L1 F k11 y9 ([(Tpolicy_value.mk false false ([]:List UInt8) 0)]:List Tpolicy_value))
 else jn (fun(l100:List Tpolicy_value)=>jn (fun(m116:List (Tpolicy_value×Bool)) (m117:List ((List UInt8)×(List Tpolicy_value)))=>if (!a4)=true then if (!a6)=true then some (m116,m117)
 else (M132 F (Tpolicy_subject.mk a1 a2 a3 a4 a5 a6 a7)).bind fun y132=>M90_L3 R0 F l100 y132 m116 m117
 else (M132 F (Tpolicy_subject.mk a1 a2 a3 a4 a5 a6 a7)).bind fun y162=>M90_L3 R0 F l100 y162 m116 m117) (fun k115=>M90_L2 R0 F k115 l100 q0 q1)) (fun k99=>if a6=true then (M131 F (Tpolicy_subject.mk a1 a2 a3 a4 a5 a6 a7)).bind fun y102=>jn (fun(l105:List Tpolicy_value)=>k99 l105) (fun k104=>M90_L1 F k104 y102 ([(Tpolicy_value.mk false false ([]:List UInt8) 0)]:List Tpolicy_value))
 else k99 ([(Tpolicy_value.mk false false ([]:List UInt8) 0)]:List Tpolicy_value))
def M35_R2(F:Nat)(x48:(List UInt8))(m56:List (Tpolicy_value×Bool))(m57:List ((List UInt8)×(List Tpolicy_value)))(v53:Tpolicy_value):Option ((List (Tpolicy_value×Bool))×(List ((List UInt8)×(List Tpolicy_value)))):=
 jn (fun(m59:List (Tpolicy_value×Bool)) (m60:List ((List UInt8)×(List Tpolicy_value)))=>some (m59,m60)) (fun k58=>if (!((mget m56 v53).getD false))=true then if (((mget m57 x48).getD [])++([v53]:List Tpolicy_value)).length*32<=140737488355328 then k58 (mput m56 v53 true) (mput m57 x48 (((mget m57 x48).getD [])++([v53]:List Tpolicy_value))) else none
 else k58 m56 m57)
def M35_L1(F:Nat)(a1:(List ((List UInt8)×(Option Tpolicy_subject))))(k38:(List (List UInt8))->(List ((List UInt8)×(List Tpolicy_value)))->Option ((List ((List UInt8)×(List Tpolicy_value)))×(List (List UInt8)))):List (List UInt8)->(List (List UInt8))->(List ((List UInt8)×(List Tpolicy_value)))->Option ((List ((List UInt8)×(List Tpolicy_value)))×(List (List UInt8)))
 |[],l45,m46=>k38 l45 m46
 |x48::tl1,l45,m46=>if (l45++([x48]:List (List UInt8))).length*16<=140737488355328 then (((mget a1 x48).getD (none:Option Tpolicy_subject))).bind fun x51=>(M90 (fun p x=>M35_R2 F x48 p.1 p.2 x) F x51.is x51.begins x51.numbers x51.asText x51.asNo x51.has x51.weight ([]:List (Tpolicy_value×Bool)) m46).bind fun y63=>M35_L1 F a1 k38 tl1 (l45++([x48]:List (List UInt8))) (y63.2) else none
def M35(F:Nat)(a1:(List ((List UInt8)×(Option Tpolicy_subject))))(a2:List KV)(a3:Int):Option ((List ((List UInt8)×(List Tpolicy_value)))×(List (List UInt8))):=
 (sKeys a1).bind fun l36=>jn (fun(l39:List (List UInt8)) (m40:List ((List UInt8)×(List Tpolicy_value)))=>some (m40,l39)) (fun k38=>M35_L1 F a1 k38 l36 ([]:List (List UInt8)) ([]:List ((List UInt8)×(List Tpolicy_value))))
def M281(F:Nat)(a1:Tpolicy_values)(a2:(List UInt8)):Option (Tpolicy_value×Bool):=
 if a1.known.isNone=true then some (((mget a1.by_ a2).getD (Tpolicy_value.mk false false ([]:List UInt8) 0)),true)
 else some (((mget a1.by_ a2).getD (Tpolicy_value.mk false false ([]:List UInt8) 0)),((mget (a1.known.getD []) a2).getD false))
def M72(F:Nat)(a1:Bool):Option Int:=
 if a1=true then some 1
 else some 2
def M282(F:Nat)(a1:Tpolicy_condIs)(a2:Tpolicy_values):Option Int:=
 (M281 F a2 a1.name).bind fun y3=>if (!(y3.2))=true then some 0
 else if (y3.1).hasText=true then (M74 F a1.texts (y3.1).text).bind fun y7=>(M72 F y7).bind fun y9=>some y9
 else (M72 F false).bind fun y11=>some y11
def M284(F:Nat)(a1:(List UInt8))(a2:Bool)(a3:Bool)(a4:List UInt8)(a5:Int):Option Bool:=
 (M138 F a4 a1).bind fun y6=>some y6
def M247_1_L1(F:Nat)(a2:Bool)(a3:Bool)(a4:List UInt8)(a5:Int)(k6:Option Int):List (List UInt8)->Int->Option Int
  |[],n8=>k6
  |x10::tl1,n8=>(M284 F x10 a2 a3 a4 a5).bind fun y12=>if y12=true then some n8
 else M247_1_L1 F a2 a3 a4 a5 k6 tl1 (n8+1)
def M247_1(F:Nat)(a1:(List (List UInt8)))(a2:Bool)(a3:Bool)(a4:List UInt8)(a5:Int):Option Int:=
 jn (some (-1)) (fun k6=>M247_1_L1 F a2 a3 a4 a5 k6 a1 0)
def M237_1(F:Nat)(a1:(List (List UInt8)))(a2:Bool)(a3:Bool)(a4:List UInt8)(a5:Int):Option Bool:=
 (M247_1 F a1 a2 a3 a4 a5).bind fun y6=>some (decide (y6>=0))
def M283(F:Nat)(a1:Tpolicy_condBegins)(a2:Tpolicy_values):Option Int:=
 (M281 F a2 a1.name).bind fun y3=>if (!(y3.2))=true then some 0
 else if (y3.1).hasText=true then (M237_1 F a1.texts (y3.1).hasText (y3.1).hasNumber (y3.1).text (y3.1).number).bind fun y7=>(M72 F y7).bind fun y9=>some y9
 else (M72 F false).bind fun y11=>some y11
def M285(F:Nat)(a1:Tpolicy_condHas)(a2:Tpolicy_values):Option Int:=
 (M281 F a2 a1.name).bind fun y3=>if (!(y3.2))=true then some 0
 else if (y3.1).hasText=true then (M72 F true).bind fun y7=>some y7
 else (M72 F (y3.1).hasNumber).bind fun y9=>some y9
def M287(F:Nat)(a1:Int)(a2:Int)(a3:Int):Option Bool:=
 if (a2==1)=true then some (decide (a1<a3))
 else if (a2==2)=true then some (decide (a1<=a3))
 else if (a2==3)=true then some (a1==a3)
 else if (a2==4)=true then some (decide (a1>=a3))
 else some (decide (a1>a3))
def M286(F:Nat)(a1:Tpolicy_condNumber)(a2:Tpolicy_values):Option Int:=
 (M281 F a2 a1.name).bind fun y3=>if (!(y3.2))=true then some 0
 else if (y3.1).hasNumber=true then (M287 F (y3.1).number a1.op a1.n).bind fun y7=>(M72 F y7).bind fun y9=>some y9
 else (M72 F false).bind fun y11=>some y11
def M50(F:Nat)(a1:Int):Option Int:=
 if (a1==1)=true then some 2
 else if (a1==2)=true then some 1
 else some 0
def M288(Riholds:KV->Tpolicy_values->Option Int)(F:Nat)(a1:Tpolicy_condNot)(a2:Tpolicy_values):Option Int:=
 (Riholds a1.kid a2).bind fun y3=>(M50 F y3).bind fun y5=>some y5
def M289_L1(Riholds:KV->Tpolicy_values->Option Int)(F:Nat)(a2:Tpolicy_values)(k3:Int->Option Int):List KV->Int->Option Int
  |[],n7=>k3 n7
  |x10::tl1,n7=>(Riholds x10 a2).bind fun y12=>jn (fun(n15:Int)=>M289_L1 Riholds F a2 k3 tl1 n15) (fun k14=>if (y12==2)=true then some 2
 else if (y12==0)=true then k14 0
 else k14 n7)
def M289(Riholds:KV->Tpolicy_values->Option Int)(F:Nat)(a1:Tpolicy_condAll)(a2:Tpolicy_values):Option Int:=
 jn (fun(n4:Int)=>some n4) (fun k3=>M289_L1 Riholds F a2 k3 a1.kids 1)
def M290_L1(Riholds:KV->Tpolicy_values->Option Int)(F:Nat)(a2:Tpolicy_values)(k3:Int->Option Int):List KV->Int->Option Int
  |[],n7=>k3 n7
  |x10::tl1,n7=>(Riholds x10 a2).bind fun y12=>jn (fun(n15:Int)=>M290_L1 Riholds F a2 k3 tl1 n15) (fun k14=>if (y12==1)=true then some 1
 else if (y12==0)=true then k14 0
 else k14 n7)
def M290(Riholds:KV->Tpolicy_values->Option Int)(F:Nat)(a1:Tpolicy_condAny)(a2:Tpolicy_values):Option Int:=
 jn (fun(n4:Int)=>some n4) (fun k3=>M290_L1 Riholds F a2 k3 a1.kids 2)
def M291(F:Nat)(a1:Tpolicy_condTrue)(a2:Tpolicy_values):Option Int:=
 some 1
def Miholds_B(Riholds:KV->Tpolicy_values->Option Int)(F:Nat)(k:KV)(a1:Tpolicy_values):Option Int:=
 oel (vdec encTpolicy_condIs 147 k) (fun y=>M282 F y a1) (oel (vdec encTpolicy_condBegins 148 k) (fun y=>M283 F y a1) (oel (vdec encTpolicy_condHas 150 k) (fun y=>M285 F y a1) (oel (vdec encTpolicy_condNumber 152 k) (fun y=>M286 F y a1) (oel (vdec encTpolicy_condNot 154 k) (fun y=>M288 Riholds F y a1) (oel (vdec encTpolicy_condAll 156 k) (fun y=>M289 Riholds F y a1) (oel (vdec encTpolicy_condAny 157 k) (fun y=>M290 Riholds F y a1) (oel (vdec encTpolicy_condTrue 159 k) (fun y=>M291 F y a1) (none))))))))
def Miholds:Nat->KV->Tpolicy_values->Option Int
 |0,_,_=>none
 |F+1,k,a1=>Miholds_B (Miholds F) F k a1
def M58_L1(F:Nat)(a2:Int)(a3:Tpolicy_values)(k5:Int->Option Int):List KV->Int->Int->Option Int
  |[],n10,n9=>k5 n9
  |x12::tl1,n10,n9=>(Miholds F x12 a3).bind fun y14=>jn (fun(n17:Int)=>jn (fun(n22:Int)=>M58_L1 F a2 a3 k5 tl1 (n10+1) n22) (fun k21=>if (n17==2)=true then some 2
 else if (n17==0)=true then k21 0
 else k21 n9)) (fun k16=>if (decide (n10<a2))=true then (M50 F y14).bind fun y19=>k16 y19
 else k16 y14)
def M58(F:Nat)(a1:(List KV))(a2:Int)(a3:Tpolicy_values):Option Int:=
 if 0<=(w64 (a2+1))/\(w64 (a2+1)).toNat<=a1.length then jn (fun(n6:Int)=>some n6) (fun k5=>M58_L1 F a2 a3 k5 (a1.take (w64 (a2+1)).toNat) 0 1) else none
def M57(F:Nat)(a1:Tpolicy_values)(a2:List KV)(a3:Int):Option Int:=
 (M58 F a2 a3 a1).bind fun y4=>some y4
def M36_L1(R36:Int->(List ((List UInt8)×(List Tpolicy_value)))->(List KV)->Int->(List (List UInt8))->(List ((List UInt8)×Tpolicy_value))->(List ((List UInt8)×Bool))->Option (Bool×(List ((List UInt8)×Tpolicy_value))×(List ((List UInt8)×Bool))))(F:Nat)(a1:Int)(a2:(List ((List UInt8)×(List Tpolicy_value))))(a3:List KV)(a4:Int)(a5:List (List UInt8))(x39:(List UInt8))(k41:(List ((List UInt8)×Tpolicy_value))->(List ((List UInt8)×Bool))->Option (Bool×(List ((List UInt8)×Tpolicy_value))×(List ((List UInt8)×Bool)))):List Tpolicy_value->(List ((List UInt8)×Tpolicy_value))->(List ((List UInt8)×Bool))->Option (Bool×(List ((List UInt8)×Tpolicy_value))×(List ((List UInt8)×Bool)))
  |[],m48,m49=>k41 m48 m49
  |x51::tl1,m48,m49=>(R36 (w64 (a1+1)) a2 a3 a4 a5 (mput m48 x39 x51) m49).bind fun y53=>if (y53.1)=true then some (true,(y53.2.1),(y53.2.2))
 else M36_L1 R36 F a1 a2 a3 a4 a5 x39 k41 tl1 (y53.2.1) (y53.2.2)
def M36_B(R36:Int->(List ((List UInt8)×(List Tpolicy_value)))->(List KV)->Int->(List (List UInt8))->(List ((List UInt8)×Tpolicy_value))->(List ((List UInt8)×Bool))->Option (Bool×(List ((List UInt8)×Tpolicy_value))×(List ((List UInt8)×Bool))))(F:Nat)(a1:Int)(a2:(List ((List UInt8)×(List Tpolicy_value))))(a3:List KV)(a4:Int)(a5:List (List UInt8))(a6:List ((List UInt8)×Tpolicy_value))(a7:List ((List UInt8)×Bool)):Option (Bool×(List ((List UInt8)×Tpolicy_value))×(List ((List UInt8)×Bool))):=
 (M57 F (Tpolicy_values.mk a6 (some a7)) a3 a4).bind fun y34=>if (y34==1)=true then some (true,a6,a7)
 else if (y34==2)=true then some (false,a6,a7)
 else if (a1==((a5.length:Nat):Int))=true then some (false,a6,a7)
 else (idx a5 a1).bind fun x39=>jn (fun(m42:List ((List UInt8)×Tpolicy_value)) (m43:List ((List UInt8)×Bool))=>some (false,(mdel m42 x39),(mdel m43 x39))) (fun k41=>M36_L1 R36 F a1 a2 a3 a4 a5 x39 k41 ((mget a2 x39).getD ([]:(List Tpolicy_value))) a6 (mput a7 x39 true))
def M36:Nat->Int->(List ((List UInt8)×(List Tpolicy_value)))->(List KV)->Int->(List (List UInt8))->(List ((List UInt8)×Tpolicy_value))->(List ((List UInt8)×Bool))->Option (Bool×(List ((List UInt8)×Tpolicy_value))×(List ((List UInt8)×Bool)))
 |0,_,_,_,_,_,_,_=>none
 |F+1,a1,a2,a3,a4,a5,a6,a7=>M36_B (M36 F) F a1 a2 a3 a4 a5 a6 a7
def M18_L2(F:Nat)(y22:((List ((List UInt8)×(Option Tpolicy_subject)))×(List KV)))(k27:(List Int)->Option ((List Int)×Int)):List Int->Int->(List Int)->Option ((List Int)×Int)
  |[],n31,l32=>k27 l32
  |x34::tl2,n31,l32=>(M35 F (y22.1) (y22.2) n31).bind fun y36=>(M36 F 0 (y36.1) (y22.2) n31 (y36.2) ([]:List ((List UInt8)×Tpolicy_value)) ([]:List ((List UInt8)×Bool))).bind fun y38=>jn (fun(l41:List Int)=>M18_L2 F y22 k27 tl2 (n31+1) l41) (fun k40=>if (!(y38.1))=true then if (l32++([x34]:List Int)).length*8<=140737488355328 then k40 (l32++([x34]:List Int)) else none
 else k40 l32)
def M18_L1(F:Nat)(a1:TPolicy)(k5:(List Int)->Option ((List Int)×Int)):List TPolicyRule->(List ((List UInt8)×Bool))->(List Int)->Option ((List Int)×Int)
  |[],m11,l12=>k5 l12
  |x17::tl1,m11,l12=>jn (fun(m15:List ((List UInt8)×Bool)) (l16:List Int)=>M18_L1 F a1 k5 tl1 m15 l16) (fun k14=>if ((mget m11 x17.About).getD false)=true then k14 m11 l12
 else (M55 F a1 x17.About).bind fun y20=>(M56 F a1 y20 ([]:List ((List UInt8)×(Option Tpolicy_subject)))).bind fun y22=>(M34 F (y22.1)).bind fun y24=>if (!y24)=true then some (([]:List Int),3)
 else jn (fun(l28:List Int)=>k14 (mput m11 x17.About true) l28) (fun k27=>M18_L2 F y22 k27 y20 0 l12))
def M18(F:Nat)(a1:TPolicy):Option ((List Int)×Int):=
 (M54 F a1).bind fun y2=>if (y2 != 0)=true then some (([]:List Int),y2)
 else jn (fun(l6:List Int)=>(M59 F l6).bind fun y46=>if y46.length=l6.length then some (y46,0) else none) (fun k5=>M18_L1 F a1 k5 a1.Rules ([]:List ((List UInt8)×Bool)) ([]:List Int))
def M43_L2(F:Nat)(a1:TFact)(k28:Option Int):List TAmount->Int->Option Int
  |[],n30=>k28
  |x32::tl2,n30=>(M31 F x32.Name).bind fun y34=>jn (M43_L2 F a1 k28 tl2 (n30+1)) (fun k36=>if (!y34)=true then some 8
 else (M106 F x32.N).bind fun y38=>if (!y38)=true then some 9
 else if (decide (n30>0))=true then (idx a1.Numbers (w64 (n30 - 1))).bind fun x42=>if (Op.bytesLess x32.Name x42.Name||x32.Name==x42.Name)=true then some 10
 else k36
 else k36)
def M43_L1(F:Nat)(a1:TFact)(k9:Option Int):List TPair->Int->Option Int
  |[],n11=>k9
  |x13::tl1,n11=>(M31 F x13.Name).bind fun y15=>jn (M43_L1 F a1 k9 tl1 (n11+1)) (fun k17=>if (!y15)=true then some 8
 else (M105 F x13.Value).bind fun y19=>if (!y19)=true then some 2
 else if (decide (n11>0))=true then (idx a1.Texts (w64 (n11 - 1))).bind fun x23=>if (Op.bytesLess x13.Name x23.Name||x13.Name==x23.Name)=true then some 10
 else k17
 else k17)
def M43(F:Nat)(a1:TFact):Option Int:=
 (M31 F a1.Kind).bind fun y2=>if (!y2)=true then some 8
 else (M105 F a1.Subject).bind fun y5=>if (!y5)=true then some 2
 else if (decide (((a1.Texts.length:Nat):Int)>30))=true then some 3
 else jn (if (decide (((a1.Numbers.length:Nat):Int)>30))=true then some 3
 else jn (some 0) (fun k28=>M43_L2 F a1 k28 a1.Numbers 0)) (fun k9=>M43_L1 F a1 k9 a1.Texts 0)
def M116_L1(F:Nat)(k3:Option Int):List TFact->Option Int
  |[]=>k3
  |x7::tl1=>(M43 F x7).bind fun y9=>if (y9 != 0)=true then some y9
 else M116_L1 F k3 tl1
def M116(F:Nat)(a1:(List TFact)):Option Int:=
 if (decide (((a1.length:Nat):Int)>5000))=true then some 3
 else jn (some 0) (fun k3=>M116_L1 F k3 a1)
def M60(F:Nat)(a1:TPolicy)(a2:(List TFact))(a3:Int):Option Int:=
 (M54 F a1).bind fun y4=>if (y4 != 0)=true then some y4
 else (M116 F a2).bind fun y7=>if (y7 != 0)=true then some y7
 else if (decide (a3<0))=true then some 9
 else if (decide (a3>1000000))=true then some 9
 else some 0
def M44_L2(F:Nat)(k12:(List ((List UInt8)×Tpolicy_value))->Option Tpolicy_values):List TAmount->(List ((List UInt8)×Tpolicy_value))->Option Tpolicy_values
 |[],m17=>k12 m17
 |x19::tl2,m17=>M44_L2 F k12 tl2 (mput m17 x19.Name (Tpolicy_value.mk ((mget m17 x19.Name).getD (Tpolicy_value.mk false false ([]:List UInt8) 0)).hasText true ((mget m17 x19.Name).getD (Tpolicy_value.mk false false ([]:List UInt8) 0)).text x19.N))
def M44_L1(F:Nat)(k2:(List ((List UInt8)×Tpolicy_value))->Option Tpolicy_values):List TPair->(List ((List UInt8)×Tpolicy_value))->Option Tpolicy_values
 |[],m7=>k2 m7
 |x9::tl1,m7=>M44_L1 F k2 tl1 (mput m7 x9.Name (Tpolicy_value.mk true ((mget m7 x9.Name).getD (Tpolicy_value.mk false false ([]:List UInt8) 0)).hasNumber x9.Value ((mget m7 x9.Name).getD (Tpolicy_value.mk false false ([]:List UInt8) 0)).number))
def M44(F:Nat)(a1:TFact):Option Tpolicy_values:=
 jn (fun(m3:List ((List UInt8)×Tpolicy_value))=>jn (fun(m13:List ((List UInt8)×Tpolicy_value))=>some (Tpolicy_values.mk m13 (none:Option (List ((List UInt8)×Bool))))) (fun k12=>M44_L2 F k12 a1.Numbers m3)) (fun k2=>M44_L1 F k2 a1.Texts ([]:List ((List UInt8)×Tpolicy_value)))
def M164(F:Nat)(a1:TPolicyRule)(a2:List UInt8)(a3:List UInt8)(a4:List TPair)(a5:List TAmount):Option Bool:=
 if (a1.About==a2)=true then (M32 F a1.When).bind fun y7=>(M44 F (TFact.mk a2 a3 a4 a5)).bind fun y9=>if y7.t∈([147,148,150,152,154,156,157,159]:List Nat) then (Miholds F y7 y9).bind fun y12=>some (y12==1) else none
 else some false
def M163_1_L1(F:Nat)(a2:List UInt8)(a3:List UInt8)(a4:List TPair)(a5:List TAmount)(k6:Option Int):List TPolicyRule->Int->Option Int
  |[],n8=>k6
  |x10::tl1,n8=>(M164 F x10 a2 a3 a4 a5).bind fun y12=>if y12=true then some n8
 else M163_1_L1 F a2 a3 a4 a5 k6 tl1 (n8+1)
def M163_1(F:Nat)(a1:(List TPolicyRule))(a2:List UInt8)(a3:List UInt8)(a4:List TPair)(a5:List TAmount):Option Int:=
 jn (some (-1)) (fun k6=>M163_1_L1 F a2 a3 a4 a5 k6 a1 0)
def M117(F:Nat)(a1:TPolicy)(a2:TFact):Option Int:=
 (M163_1 F a1.Rules a2.Kind a2.Subject a2.Texts a2.Numbers).bind fun y3=>some y3
def M234(F:Nat)(a1:(List UInt8))(a2:(List UInt8)):Option Bool:=
 if (decide ((a1.length:Int)>=(a2.length:Int)))=true then if 0<=(w64 ((a1.length:Int) - (a2.length:Int)))/\(w64 ((a1.length:Int) - (a2.length:Int))).toNat<=a1.length then some ((a1.drop (w64 ((a1.length:Int) - (a2.length:Int))).toNat)==a2) else none
 else some false
def M214(F:Nat)(a1:(List UInt8))(a2:(List UInt8)):Option ((List UInt8)×Bool):=
 (M234 F a1 a2).bind fun y3=>if (!y3)=true then some (a1,false)
 else if 0<=(w64 ((a1.length:Int) - (a2.length:Int)))/\(w64 ((a1.length:Int) - (a2.length:Int))).toNat<=a1.length then some ((a1.take (w64 ((a1.length:Int) - (a2.length:Int))).toNat),true) else none
def M165(F:Nat)(a1:(List UInt8))(a2:(List UInt8)):Option ((List UInt8)×Bool):=
 (M214 F a1 a2).bind fun y3=>some ((y3.1),(y3.2))
def M118(F:Nat)(a1:TWaiver)(a2:(List UInt8)):Option Bool:=
 (M165 F a1.Subject ([42]:List UInt8)).bind fun y3=>if (y3.2)=true then (M138 F a2 (y3.1)).bind fun y6=>some y6
 else some (a1.Subject==a2)
def M62_L2(F:Nat)(x12:TFact)(x20:TPolicyRule)(k22:(List Int)->Option (List Tpolicy_ruling)):List TWaiver->Int->(List Int)->Option (List Tpolicy_ruling)
  |[],n26,l27=>k22 l27
  |x31::tl2,n26,l27=>jn (fun(l30:List Int)=>M62_L2 F x12 x20 k22 tl2 (n26+1) l30) (fun k29=>if (x31.Rule==x20.Name)=true then if (decide (x31.Level<x20.Level))=true then (M118 F x31 x12.Subject).bind fun y35=>jn (fun(l38:List Int)=>k29 l38) (fun k37=>if y35=true then if (l27++([n26]:List Int)).length*8<=140737488355328 then k37 (l27++([n26]:List Int)) else none
 else k37 l27)
 else k29 l27
 else k29 l27)
def M62_L1(F:Nat)(a1:TPolicy)(k3:(List Tpolicy_ruling)->Option (List Tpolicy_ruling)):List TFact->(List Tpolicy_ruling)->Option (List Tpolicy_ruling)
  |[],l8=>k3 l8
  |x12::tl1,l8=>jn (fun(l11:List Tpolicy_ruling)=>M62_L1 F a1 k3 tl1 l11) (fun k10=>(M117 F a1 x12).bind fun y14=>jn (fun(n17:Int) (l18:List Int)=>if (l8++([(Tpolicy_ruling.mk y14 n17 l18)]:List Tpolicy_ruling)).length*40<=140737488355328 then k10 (l8++([(Tpolicy_ruling.mk y14 n17 l18)]:List Tpolicy_ruling)) else none) (fun k16=>if (decide (y14>=0))=true then (idx a1.Rules y14).bind fun x20=>jn (fun(l23:List Int)=>k16 x20.Level l23) (fun k22=>M62_L2 F x12 x20 k22 a1.Waivers 0 ([]:List Int))
 else k16 1 ([]:List Int)))
def M62(F:Nat)(a1:TPolicy)(a2:(List TFact)):Option (List Tpolicy_ruling):=
 jn (fun(l4:List Tpolicy_ruling)=>some l4) (fun k3=>M62_L1 F a1 k3 a2 ([]:List Tpolicy_ruling))
def M61_L2(F:Nat)(a1:TPolicy)(a3:Int)(x13:Tpolicy_ruling)(k15:Int->Int->Option (List TDecision)):List Int->Option (List TDecision)
  |[]=>k15 (-1) x13.level
  |x22::tl2=>jn (M61_L2 F a1 a3 x13 k15 tl2 ) (fun k21=>(idx a1.Waivers x22).bind fun x24=>if (decide (a3>=x24.From))=true then if (decide (a3<=x24.To))=true then k15 x22 x24.Level
 else k21
 else k21)
def M61_L1(F:Nat)(a1:TPolicy)(a3:Int)(k4:(List TDecision)->Option (List TDecision)):List Tpolicy_ruling->Int->(List TDecision)->Option (List TDecision)
 |[],n8,l9=>k4 l9
 |x13::tl1,n8,l9=>jn (fun(l12:List TDecision)=>M61_L1 F a1 a3 k4 tl1 (n8+1) l12) (fun k11=>jn (fun(n16:Int) (n17:Int)=>if (l9++([(TDecision.mk n8 x13.rule n16 n17)]:List TDecision)).length*32<=140737488355328 then k11 (l9++([(TDecision.mk n8 x13.rule n16 n17)]:List TDecision)) else none) (fun k15=>M61_L2 F a1 a3 x13 k15 x13.waivers))
def M61(F:Nat)(a1:TPolicy)(a2:(List Tpolicy_ruling))(a3:Int):Option (List TDecision):=
 jn (fun(l5:List TDecision)=>some l5) (fun k4=>M61_L1 F a1 a3 k4 a2 0 ([]:List TDecision))
def M19(F:Nat)(a1:TPolicy)(a2:(List TFact))(a3:Int):Option ((List TDecision)×Int):=
 (M60 F a1 a2 a3).bind fun y4=>if (y4 != 0)=true then some (([]:List TDecision),y4)
 else (M62 F a1 a2).bind fun y7=>(M61 F a1 y7 a3).bind fun y9=>some (y9,0)
def M11(F:Nat):Option Bool:=some true
def M63_L1(F:Nat)(a2:Int)(k3:Option Int):List Int->Int->Option Int
  |[],n5=>k3
  |x7::tl1,n5=>if (a2==x7)=true then some n5
 else M63_L1 F a2 k3 tl1 (n5+1)
def M63(F:Nat)(a1:(List Int))(a2:Int):Option Int:=
 jn (some (-1)) (fun k3=>M63_L1 F a2 k3 a1 0)
def M20(F:Nat)(a1:(List Int))(a2:Int):Option Bool:=
 (M63 F a1 a2).bind fun y3=>some (decide (y3>=0))
def M5_L2(F:Nat)(y3:((List Int)×Int))(y5:((List TDecision)×Int))(y29:((List TDecision)×Int))(k31:Option Bool):List TDecision->Int->Option Bool
  |[],n33=>k31
  |x35::tl2,n33=>(M20 F (y3.1) x35.Rule).bind fun y37=>if y37=true then some false
 else if ((y29.2) != 0)=true then some false
 else (idx (y5.1) n33).bind fun x41=>(idx (y29.1) n33).bind fun x43=>if (x41.Level != x43.Level)=true then some false
 else M5_L2 F y3 y5 y29 k31 tl2 (n33+1)
def M5_L1(F:Nat)(y3:((List Int)×Int))(k13:(List TPolicyRule)->Option Bool):List TPolicyRule->Int->(List TPolicyRule)->Option Bool
  |[],n17,l18=>k13 l18
  |x20::tl1,n17,l18=>(M20 F (y3.1) n17).bind fun y22=>jn (fun(l25:List TPolicyRule)=>M5_L1 F y3 k13 tl1 (n17+1) l25) (fun k24=>if (!y22)=true then if (l18++([x20]:List TPolicyRule)).length*128<=140737488355328 then k24 (l18++([x20]:List TPolicyRule)) else none
 else k24 l18)
def M5(F:Nat)(a1:TPolicy)(a2:(List TFact)):Option Bool:=
 (M18 F a1).bind fun y3=>(M19 F (TPolicy.mk a1.Rules ([]:List TWaiver)) a2 0).bind fun y5=>if ((y3.2) != 0)=true then (M11 F).bind fun y8=>some y8
 else if ((y5.2) != 0)=true then (M11 F).bind fun y11=>some y11
 else jn (fun(l14:List TPolicyRule)=>(M19 F (TPolicy.mk l14 ([]:List TWaiver)) a2 0).bind fun y29=>jn ((M18 F (TPolicy.mk l14 ([]:List TWaiver))).bind fun y47=>if ((y47.2)==0)=true then if ((((y47.1).length:Nat):Int)==0)=true then (M11 F).bind fun y51=>some y51
 else some false
 else some false) (fun k31=>M5_L2 F y3 y5 y29 k31 (y5.1) 0)) (fun k13=>M5_L1 F y3 k13 a1.Rules 0 ([]:List TPolicyRule))
end
end Go.Proofs.YtelmfadihfcgnaaGreatDoor
