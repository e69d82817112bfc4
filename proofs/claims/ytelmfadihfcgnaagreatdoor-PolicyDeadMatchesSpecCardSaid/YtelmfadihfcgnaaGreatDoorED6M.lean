/- Part of the proof: D6M. -/
import Derived.Test.YtelmfadihfcgnaaGreatDoorED6T
set_option linter.unusedSimpArgs false
set_option linter.unusedVariables false
namespace Go.Proofs.YtelmfadihfcgnaaGreatDoor
open Go Go.Pv
set_option maxRecDepth 100000
noncomputable section
def Of(F:Nat)(a1:B8):Option Bool:=
 jn (fun(b3:Bool)=>if b3=true then some true
 else some false) (fun k2=>if (a1==([114,117,108,101]:B8))=true then k2 (a1==([114,117,108,101]:B8))
 else if (a1==([97,98,111,117,116]:B8))=true then k2 (a1==([97,98,111,117,116]:B8))
 else if (a1==([119,104,101,110]:B8))=true then k2 (a1==([119,104,101,110]:B8))
 else if (a1==([119,97,105,118,101]:B8))=true then k2 (a1==([119,97,105,118,101]:B8))
 else if (a1==([102,111,114]:B8))=true then k2 (a1==([102,111,114]:B8))
 else if (a1==([102,114,111,109]:B8))=true then k2 (a1==([102,114,111,109]:B8))
 else if (a1==([116,111]:B8))=true then k2 (a1==([116,111]:B8))
 else if (a1==([98,121]:B8))=true then k2 (a1==([98,121]:B8))
 else if (a1==([97,115]:B8))=true then k2 (a1==([97,115]:B8))
 else if (a1==([112,97,115,115]:B8))=true then k2 (a1==([112,97,115,115]:B8))
 else if (a1==([110,111,116,101]:B8))=true then k2 (a1==([110,111,116,101]:B8))
 else if (a1==([119,97,114,110]:B8))=true then k2 (a1==([119,97,114,110]:B8))
 else if (a1==([100,101,110,121]:B8))=true then k2 (a1==([100,101,110,121]:B8))
 else if (a1==([111,114]:B8))=true then k2 (a1==([111,114]:B8))
 else if (a1==([97,110,100]:B8))=true then k2 (a1==([97,110,100]:B8))
 else if (a1==([116,114,117,101]:B8))=true then k2 (a1==([116,114,117,101]:B8))
 else if (a1==([105,115]:B8))=true then k2 (a1==([105,115]:B8))
 else if (a1==([98,101,103,105,110,115]:B8))=true then k2 (a1==([98,101,103,105,110,115]:B8))
 else if (a1==([104,97,115]:B8))=true then k2 (a1==([104,97,115]:B8))
 else k2 (a1==([110,111,116]:B8)))
def kF(F:Nat)(a1:B8)(k2:Option Bool):Nat->Int->Option Bool
  |0,n4=>k2
  |tl1+1,n4=>jn (kF F a1 k2 tl1 (n4+1)) (fun k6=>(cq a1 n4).bind fun c7=>if (decide ((c7.toNat:Int)>=97))=true then if (decide ((c7.toNat:Int)<=122))=true then k6
 else if (decide (n4>0))=true then if (decide ((c7.toNat:Int)>=48))=true then if (decide ((c7.toNat:Int)<=57))=true then k6
 else if (!((c7.toNat:Int)==45))=true then some false
 else k6
 else if (!((c7.toNat:Int)==45))=true then some false
 else k6
 else some false
 else if (decide (n4>0))=true then if (decide ((c7.toNat:Int)>=48))=true then if (decide ((c7.toNat:Int)<=57))=true then k6
 else if (!((c7.toNat:Int)==45))=true then some false
 else k6
 else if (!((c7.toNat:Int)==45))=true then some false
 else k6
 else some false)
def IE(F:Nat)(a1:B8):Option Bool:=
 jn (if (!(a1==([]:B8)))=true then if (decide ((a1.length:Int)<=40))=true then (Of F a1).bind fun y24=>some (!y24)
 else some false
 else some false) (fun k2=>if (a1.length:Int)<=9223372036854775807 then kF F a1 k2 (((a1.length:Int):Int).toNat) 0 else none)
def mn(R86:aG->Int->Option (Int×Int))(F:Nat)(a2:Int)(k4:Int->Int->Option (Int×Int)):List aw->Int->Int->Option (Int×Int)
 |[],n10,n11=>k4 n10 n11
 |x14::tl1,n10,n11=>(dM ah x14).bind fun y16=>(R86 y16 (bh (a2+1))).bind fun y18=>mn R86 F a2 k4 tl1 (if 61<(bh (n10+(y18.1))) then 61 else (bh (n10+(y18.1)))) (if (y18.2)>n11 then (y18.2) else n11)
def yX(R86:aG->Int->Option (Int×Int))(F:Nat)(a1:aG)(a2:Int):Option (Int×Int):=
 if (decide (a2>12))=true then some (1,a2)
 else jn (fun(n5:Int) (n6:Int)=>some (n5,n6)) (fun k4=>mn R86 F a2 k4 a1.Kids 1 a2)
def JV:Nat->aG->Int->Option (Int×Int)
 |0,_,_=>none
 |F+1,a1,a2=>yX (JV F) F a1 a2
def CY(F:Nat):Option (Nat->bN):=
 some (s8 (bN.mk false false false 0) [(bN.mk false false false 0),(bN.mk false false false 0),(bN.mk true true false 0),(bN.mk true true false 0),(bN.mk true false false 0),(bN.mk true false true 0),(bN.mk false false false 1),(bN.mk false false false (-1)),(bN.mk false false false (-1))])
def GV(F:Nat)(a1:aG):Option Bool:=
 (CY F).bind fun y2=>if 0<=a1.Kind/\a1.Kind.toNat<9 then if (!(y2 a1.Kind.toNat).name)=true then if (!(a1.Name==([]:B8)))=true then some false
 else if (!(y2 a1.Kind.toNat).texts)=true then if (decide (((a1.Texts.length:Nat):Int)>0))=true then some false
 else if (!(y2 a1.Kind.toNat).number)=true then if (a1.Op != 0)=true then some false
 else if (a1.N != 0)=true then some false
 else if (decide ((y2 a1.Kind.toNat).kids<0))=true then some (decide (((a1.Kids.length:Nat):Int)>=2))
 else some (((a1.Kids.length:Nat):Int)==(y2 a1.Kind.toNat).kids)
 else if (decide ((y2 a1.Kind.toNat).kids<0))=true then some (decide (((a1.Kids.length:Nat):Int)>=2))
 else some (((a1.Kids.length:Nat):Int)==(y2 a1.Kind.toNat).kids)
 else if (!(y2 a1.Kind.toNat).number)=true then if (a1.Op != 0)=true then some false
 else if (a1.N != 0)=true then some false
 else if (decide ((y2 a1.Kind.toNat).kids<0))=true then some (decide (((a1.Kids.length:Nat):Int)>=2))
 else some (((a1.Kids.length:Nat):Int)==(y2 a1.Kind.toNat).kids)
 else if (decide ((y2 a1.Kind.toNat).kids<0))=true then some (decide (((a1.Kids.length:Nat):Int)>=2))
 else some (((a1.Kids.length:Nat):Int)==(y2 a1.Kind.toNat).kids)
 else if (!(y2 a1.Kind.toNat).texts)=true then if (decide (((a1.Texts.length:Nat):Int)>0))=true then some false
 else if (!(y2 a1.Kind.toNat).number)=true then if (a1.Op != 0)=true then some false
 else if (a1.N != 0)=true then some false
 else if (decide ((y2 a1.Kind.toNat).kids<0))=true then some (decide (((a1.Kids.length:Nat):Int)>=2))
 else some (((a1.Kids.length:Nat):Int)==(y2 a1.Kind.toNat).kids)
 else if (decide ((y2 a1.Kind.toNat).kids<0))=true then some (decide (((a1.Kids.length:Nat):Int)>=2))
 else some (((a1.Kids.length:Nat):Int)==(y2 a1.Kind.toNat).kids)
 else if (!(y2 a1.Kind.toNat).number)=true then if (a1.Op != 0)=true then some false
 else if (a1.N != 0)=true then some false
 else if (decide ((y2 a1.Kind.toNat).kids<0))=true then some (decide (((a1.Kids.length:Nat):Int)>=2))
 else some (((a1.Kids.length:Nat):Int)==(y2 a1.Kind.toNat).kids)
 else if (decide ((y2 a1.Kind.toNat).kids<0))=true then some (decide (((a1.Kids.length:Nat):Int)>=2))
 else some (((a1.Kids.length:Nat):Int)==(y2 a1.Kind.toNat).kids) else none
def kP(F:Nat)(a1:B8)(k2:Option Bool):Nat->Int->Option Bool
  |0,n4=>k2
  |tl1+1,n4=>(cq a1 n4).bind fun c6=>if (decide ((c6.toNat:Int)<32))=true then some false
 else (cq a1 n4).bind fun c9=>if (decide ((c9.toNat:Int)>126))=true then some false
 else kP F a1 k2 tl1 (n4+1)
def C1(F:Nat)(a1:B8):Option Bool:=
 jn (some (decide ((a1.length:Int)<=1000))) (fun k2=>if (a1.length:Int)<=9223372036854775807 then kP F a1 k2 (((a1.length:Int):Int).toNat) 0 else none)
def kL(F:Nat)(a1:(List B8))(k4:Option Int):List B8->Int->Option Int
  |[],n6=>k4
  |x8::tl1,n6=>(C1 F x8).bind fun y10=>jn (kL F a1 k4 tl1 (n6+1)) (fun k12=>if (!y10)=true then some 2
 else if (decide (n6>0))=true then (cq a1 (bh (n6 - 1))).bind fun x15=>if (Op.bytesLess x8 x15||x8==x15)=true then some 10
 else k12
 else k12)
def GU(F:Nat)(a1:(List B8)):Option Int:=
 if (((a1.length:Nat):Int)==0)=true then some 13
 else if (decide (((a1.length:Nat):Int)>50))=true then some 3
 else jn (some 0) (fun k4=>kL F a1 k4 a1 0)
def ug(F:Nat)(a1:Int):Option Bool:=
 if (decide (a1>=(-1000000000000)))=true then some (decide (a1<=1000000000000))
 else some false
def iM(R87:aG->Option Int)(F:Nat)(k27:Option Int):List aw->Option Int
  |[]=>k27
  |x31::tl1=>(dM ah x31).bind fun y33=>(R87 y33).bind fun y35=>if (y35 != 0)=true then some y35
 else iM R87 F k27 tl1
def qq(R87:aG->Option Int)(F:Nat)(a1:aG):Option Int:=
 if (decide (a1.Kind<1))=true then some 7
 else if (decide (a1.Kind>8))=true then some 7
 else (CY F).bind fun y4=>if 0<=a1.Kind/\a1.Kind.toNat<9 then (GV F a1).bind fun y7=>jn (jn (jn (jn (some 0) (fun k27=>iM R87 F k27 a1.Kids)) (fun k20=>if (y4 a1.Kind.toNat).number=true then if (decide (a1.Op<1))=true then some 7
 else if (decide (a1.Op>5))=true then some 7
 else (ug F a1.N).bind fun y24=>if (!y24)=true then some 9
 else k20
 else k20)) (fun k15=>if (y4 a1.Kind.toNat).texts=true then (GU F a1.Texts).bind fun y17=>if (y17 != 0)=true then some y17
 else k15
 else k15)) (fun k9=>if (!y7)=true then some 2
 else if (y4 a1.Kind.toNat).name=true then (IE F a1.Name).bind fun y12=>if (!y12)=true then some 8
 else k9
 else k9) else none
def JU:Nat->aG->Option Int
 |0,_=>none
 |F+1,a1=>qq (JU F) F a1
def MJ(F:Nat)(a1:aG):Option Int:=
 (JV F a1 1).bind fun y2=>if (decide ((y2.1)>60))=true then some 3
 else if (decide ((y2.2)>12))=true then some 3
 else (JU F a1).bind fun y6=>some y6
def IW(F:Nat)(a1:B8)(a2:Int):Option Int:=some (Lib.indexByte a1 a2.toNat.toUInt8)
def Mm(F:Nat)(a1:ay)(a2:B8)(a3:B8)(a4:Int)(a5:Int)(a6:B8)(a7:Int):Option Bool:=
 some (a1.Name==a2)
def kK(F:Nat)(a2:B8)(a3:B8)(a4:Int)(a5:Int)(a6:B8)(a7:Int)(k8:Option Int):List ay->Int->Option Int
  |[],n10=>k8
  |x12::tl1,n10=>(Mm F x12 a2 a3 a4 a5 a6 a7).bind fun y14=>if y14=true then some n10
 else kK F a2 a3 a4 a5 a6 a7 k8 tl1 (n10+1)
def IU(F:Nat)(a1:(List ay))(a2:B8)(a3:B8)(a4:Int)(a5:Int)(a6:B8)(a7:Int):Option Int:=
 jn (some (-1)) (fun k8=>kK F a2 a3 a4 a5 a6 a7 k8 a1 0)
def GR(F:Nat)(a1:(List ay))(a2:B8)(a3:B8)(a4:Int)(a5:Int)(a6:B8)(a7:Int):Option Bool:=
 (IU F a1 a2 a3 a4 a5 a6 a7).bind fun y8=>some (decide (y8>=0))
def GZ(F:Nat)(a1:aW)(a2:cB):Option Int:=
 (IW F a2.Subject 42).bind fun y3=>(GR F a1.Rules a2.Rule a2.Subject a2.From a2.To a2.Owner a2.Level).bind fun y5=>jn (some 0) (fun k7=>if (!y5)=true then some 4
 else (C1 F a2.Subject).bind fun y9=>if (!y9)=true then some 2
 else if (decide (y3>=0))=true then if (decide (y3<(bh ((a2.Subject.length:Int) - 1))))=true then some 2
 else if (decide (a2.From<0))=true then some 9
 else if (decide (a2.From>a2.To))=true then some 9
 else if (decide (a2.To>1000000))=true then some 9
 else (IE F a2.Owner).bind fun y17=>if (!y17)=true then some 8
 else if (decide (a2.Level<1))=true then some 7
 else if (decide (a2.Level>3))=true then some 7
 else k7
 else if (decide (a2.From<0))=true then some 9
 else if (decide (a2.From>a2.To))=true then some 9
 else if (decide (a2.To>1000000))=true then some 9
 else (IE F a2.Owner).bind fun y25=>if (!y25)=true then some 8
 else if (decide (a2.Level<1))=true then some 7
 else if (decide (a2.Level>3))=true then some 7
 else k7)
def og(F:Nat)(a1:aW)(k25:Option Int):List cB->Option Int
  |[]=>k25
  |x29::tl2=>(GZ F a1 x29).bind fun y31=>if (y31 != 0)=true then some y31
 else og F a1 k25 tl2
def mB(F:Nat)(k4:Option Int):List ay->(List (B8×Bool))->Option Int
  |[],m8=>k4
  |x10::tl1,m8=>(IE F x10.Name).bind fun y12=>if (!y12)=true then some 8
 else if ((aY m8 x10.Name).getD false)=true then some 5
 else (IE F x10.About).bind fun y16=>if (!y16)=true then some 8
 else (MJ F x10.When).bind fun y19=>if (y19 != 0)=true then some y19
 else if (decide (x10.Level<1))=true then some 7
 else if (decide (x10.Level>4))=true then some 7
 else mB F k4 tl1 (co m8 x10.Name true)
def Ok(F:Nat)(a1:aW):Option Int:=
 if (decide (((a1.Rules.length:Nat):Int)>100))=true then some 3
 else if (decide (((a1.Waivers.length:Nat):Int)>200))=true then some 3
 else jn (jn (some 0) (fun k25=>og F a1 k25 a1.Waivers)) (fun k4=>mB F k4 a1.Rules ([]:List (B8×Bool)))
def mA(F:Nat)(a2:B8)(k3:(List Int)->Option (List Int)):List ay->Int->(List Int)->Option (List Int)
  |[],n7,l8=>k3 l8
  |x10::tl1,n7,l8=>jn (fun(l13:List Int)=>mA F a2 k3 tl1 (n7+1) l13) (fun k12=>if (x10.About==a2)=true then if (l8++([n7]:List Int)).length*8<=140737488355328 then k12 (l8++([n7]:List Int)) else none
 else k12 l8)
def Oj(F:Nat)(a1:aW)(a2:B8):Option (List Int):=
 jn (fun(l4:List Int)=>some l4) (fun k3=>mA F a2 k3 a1.Rules 0 ([]:List Int))
def mE(R32:aG->Option KV)(F:Nat)(k2:(List KV)->Option KV):List aw->(List KV)->Option KV
 |[],l7=>k2 l7
 |x9::tl1,l7=>(dM ah x9).bind fun y11=>(R32 y11).bind fun y13=>if (l7++([y13]:List KV)).length*16<=140737488355328 then mE R32 F k2 tl1 (l7++([y13]:List KV)) else none
def yZ(R32:aG->Option KV)(F:Nat)(a1:aG):Option KV:=
 jn (fun(l3:List KV)=>if (a1.Kind==2)=true then some (uI 147 bQ (da.mk a1.Name a1.Texts))
 else if (a1.Kind==3)=true then some (uI 148 br (cx.mk a1.Name a1.Texts))
 else if (a1.Kind==4)=true then some (uI 150 bR (cU.mk a1.Name))
 else if (a1.Kind==5)=true then some (uI 152 bq (cw.mk a1.Name a1.Op a1.N))
 else if (a1.Kind==6)=true then (cq l3 0).bind fun x22=>some (uI 154 cf (cT.mk x22))
 else if (a1.Kind==7)=true then some (uI 156 bT (cW.mk l3))
 else if (a1.Kind==8)=true then some (uI 157 bS (cV.mk l3))
 else some (uI 159 cm cK.mk)) (fun k2=>mE R32 F k2 a1.Kids ([]:List KV))
def JY:Nat->aG->Option KV
 |0,_=>none
 |F+1,a1=>yZ (JY F) F a1
def Gw(F:Nat)(a1:B8)(a2:List (B8×(Option ae))):Option (List (B8×(Option ae))×ae):=match aY a2 a1 with
 |none=>some (co a2 a1 (some (ae.mk [] [] [] false false false 2)),(ae.mk [] [] [] false false false 2))
 |some none=>none
 |some (some s)=>some (a2,s)
def gi(R33:KV->(List (B8×(Option ae)))->Option (List (B8×(Option ae))))(F:Nat)(k93:(List (B8×(Option ae)))->Option (List (B8×(Option ae)))):List KV->(List (B8×(Option ae)))->Option (List (B8×(Option ae)))
 |[],m98=>k93 m98
 |x100::tl1,m98=>(R33 x100 m98).bind fun y102=>gi R33 F k93 tl1 y102
def lj(R33:KV->(List (B8×(Option ae)))->Option (List (B8×(Option ae))))(F:Nat)(a1:KV)(a2:List (B8×(Option ae))):Option (List (B8×(Option ae))):=
 if Nat.beq a1.t 147=true then (gF bQ 147 a1).bind fun y63=>(Gw F y63.name a2).bind fun y65=>if ((y65.2).is++y63.texts).length*16<=140737488355328 then some (co (y65.1) y63.name (some (ae.mk ((y65.2).is++y63.texts) (y65.2).begins (y65.2).numbers true (y65.2).asNo (y65.2).has (bh ((y65.2).weight+((y63.texts.length:Nat):Int)))))) else none
 else if Nat.beq a1.t 148=true then (gF br 148 a1).bind fun y69=>(Gw F y69.name a2).bind fun y71=>if ((y71.2).begins++y69.texts).length*16<=140737488355328 then some (co (y71.1) y69.name (some (ae.mk (y71.2).is ((y71.2).begins++y69.texts) (y71.2).numbers true (y71.2).asNo (y71.2).has (bh ((y71.2).weight+(bh (2*((y69.texts.length:Nat):Int)))))))) else none
 else if Nat.beq a1.t 150=true then (gF bR 150 a1).bind fun y75=>(Gw F y75.name a2).bind fun y77=>some (co (y77.1) y75.name (some (ae.mk (y77.2).is (y77.2).begins (y77.2).numbers (y77.2).asText (y77.2).asNo true (y77.2).weight)))
 else if Nat.beq a1.t 152=true then (gF bq 152 a1).bind fun y80=>(Gw F y80.name a2).bind fun y82=>if ((y82.2).numbers++([y80.n]:List Int)).length*8<=140737488355328 then some (co (y82.1) y80.name (some (ae.mk (y82.2).is (y82.2).begins ((y82.2).numbers++([y80.n]:List Int)) (y82.2).asText true (y82.2).has (bh ((y82.2).weight+2))))) else none
 else if Nat.beq a1.t 154=true then (gF cf 154 a1).bind fun y86=>(R33 y86.kid a2).bind fun y88=>some y88
 else if Nat.beq a1.t 156=true then (gF bT 156 a1).bind fun y91=>jn (fun(m94:List (B8×(Option ae)))=>some m94) (fun k93=>gi R33 F k93 y91.kids a2)
 else if Nat.beq a1.t 157=true then (gF bS 157 a1).bind fun y106=>jn (fun(m109:List (B8×(Option ae)))=>some m109) (fun k108=>gi R33 F k108 y106.kids a2)
 else some a2
def Ha:Nat->KV->(List (B8×(Option ae)))->Option (List (B8×(Option ae)))
 |0,_,_=>none
 |F+1,a1,a2=>lj (Ha F) F a1 a2
def mz(F:Nat)(a1:aW)(k26:(List (B8×(Option ae)))->(List KV)->Option ((List (B8×(Option ae)))×(List KV))):List Int->(List (B8×(Option ae)))->(List KV)->Option ((List (B8×(Option ae)))×(List KV))
 |[],m33,l34=>k26 m33 l34
 |x36::tl1,m33,l34=>(cq a1.Rules x36).bind fun x38=>(JY F x38.When).bind fun y40=>(Ha F y40 m33).bind fun y42=>if (l34++([y40]:List KV)).length*16<=140737488355328 then mz F a1 k26 tl1 y42 (l34++([y40]:List KV)) else none
def Oi(F:Nat)(a1:aW)(a2:(List Int))(a3:List (B8×(Option ae))):Option ((List (B8×(Option ae)))×(List KV)):=
 jn (fun(m27:List (B8×(Option ae))) (l28:List KV)=>some (m27,l28)) (fun k26=>mz F a1 k26 a2 a3 ([]:List KV))
def fN(F:Nat):List (B8×(Option ae))->Int->Option Bool
  |[],n4=>some true
  |e6::l7,n4=>if (1<=n4/\n4<=200000)/\((e6::l7).all fun p=>match p.2 with|some s=>decide (1<=s.weight/\s.weight<=1000000000000)|none=>false)=true then (e6.2).bind fun x9=>if x9.has=true then if (decide ((bh (n4*(bh (x9.weight+1))))>200000))=true then some false
 else fN F l7 (bh (n4*(bh (x9.weight+1))))
 else if x9.asText=true then jn (fun(n15:Int)=>if (decide ((bh (n4*n15))>200000))=true then some false
 else fN F l7 (bh (n4*n15))) (fun k14=>if x9.asNo=true then k14 (bh (x9.weight+1))
 else k14 x9.weight)
 else if (decide ((bh (n4*x9.weight))>200000))=true then some false
 else fN F l7 (bh (n4*x9.weight)) else none
def Oo(F:Nat)(a1:(List (B8×(Option ae)))):Option Bool:=
 fN F a1 1
def LU(F:Nat)(a1:List Int):Option (List Int):=if a1.length<4611686018427387904 then some (nl a1) else none
def IR(F:Nat)(a1:List Int):Option (List Int):=if a1.length<=140737488355328 then some (BA a1) else none
def fO(F:Nat)(x11:Int)(k13:(List Int)->Option (List Int)):Nat->Int->(List Int)->Option (List Int)
  |0,n17,l18=>k13 l18
  |tl2+1,n17,l18=>(cq ([(bh (x11 - 1)),x11,(bh (x11+1))]:List Int) n17).bind fun x20=>(ug F x20).bind fun y22=>jn (fun(l25:List Int)=>fO F x11 k13 tl2 (n17+1) l25) (fun k24=>if y22=true then if (l18++([x20]:List Int)).length*8<=140737488355328 then k24 (l18++([x20]:List Int)) else none
 else k24 l18)
def ij(F:Nat)(k2:(List Int)->Option (List Int)):List Int->(List Int)->Option (List Int)
 |[],l7=>k2 l7
 |x11::tl1,l7=>jn (fun(l10:List Int)=>ij F k2 tl1 l10) (fun k9=>jn (fun(l14:List Int)=>k9 l14) (fun k13=>if ((3:Nat):Int)<=9223372036854775807 then fO F x11 k13 ((((3:Nat):Int):Int).toNat) 0 l7 else none))
def za(F:Nat)(a1:ae):Option (List Int):=
 jn (fun(l3:List Int)=>(LU F l3).bind fun y30=>if y30.length=l3.length then (IR F y30).bind fun y33=>some y33 else none) (fun k2=>ij F k2 a1.numbers ([0]:List Int))
def Oq(F:Nat)(a1:(List B8)):Option (List B8):=
 EQ a1.length (fun b7=>if b7=true then some ([]:List B8)
 else if (([]:List B8)++a1).length*16<=140737488355328 then some (([]:List B8)++a1) else none)
def kN(F:Nat)(a2:B8)(k3:Option Int):List B8->Int->Option Int
  |[],n5=>k3
  |x7::tl1,n5=>if (a2==x7)=true then some n5
 else kN F a2 k3 tl1 (n5+1)
def Jf(F:Nat)(a1:(List B8))(a2:B8):Option Int:=
 jn (some (-1)) (fun k3=>kN F a2 k3 a1 0)
def JW(F:Nat)(a1:(List B8))(a2:B8):Option Bool:=
 (Jf F a1 a2).bind fun y3=>some (decide (y3>=0))
def GP(F:Nat)(a1:B8)(a2:B8):Option Bool:=
 if (decide ((a1.length:Int)>=(a2.length:Int)))=true then if 0<=(a2.length:Int)/\(a2.length:Int).toNat<=a1.length then some ((a1.take (a2.length:Int).toNat)==a2) else none
 else some false
def CX(F:Nat)(a1:B8)(a2:B8):Option Bool:=
 (GP F a1 a2).bind fun y3=>some y3
def II(F:Nat)(a1:B8)(a2:Int)(a3:B8):Option Bool:=
 if (decide ((a1.length:Int)>a2))=true then (CX F a3 a1).bind fun y5=>some y5
 else some false
def kG(F:Nat)(a2:Int)(a3:B8)(k4:Option Int):List B8->Int->Option Int
  |[],n6=>k4
  |x8::tl1,n6=>(II F x8 a2 a3).bind fun y10=>if y10=true then some n6
 else kG F a2 a3 k4 tl1 (n6+1)
def IH(F:Nat)(a1:(List B8))(a2:Int)(a3:B8):Option Int:=
 jn (some (-1)) (fun k4=>kG F a2 a3 k4 a1 0)
def IJ(F:Nat)(a1:(List B8))(a2:Int)(a3:B8):Option Bool:=
 (IH F a1 a2 a3).bind fun y4=>some (decide (y4>=0))
def GN(F:Nat)(a1:B8)(a2:(List B8))(a3:Int):Option Bool:=
 (IJ F a2 a3 a1).bind fun y4=>some y4
def ja(F:Nat)(a1:B8)(a2:(List B8))(a3:(List B8))(x12:B8)(k18:(List B8)->Option (B8×Bool)):Nat->Int->(List B8)->Option (B8×Bool)
 |0,_,_=>none
 |n+1,n22,l23=>if (decide (n22<=126))=true then jn (fun(l26:List B8)=>ja F a1 a2 a3 x12 k18 n (IntKind.wrap .u8 (n22+1)) l26) (fun k25=>if x12.length+(Utf8.encode (IntKind.wrap .i32 n22)).data.toList.length<=9223372036854775807 then (GN F (x12++(Utf8.encode (IntKind.wrap .i32 n22)).data.toList) a2 (a1.length:Int)).bind fun y28=>if y28=true then k25 l23
 else (JW F a3 (x12++(Utf8.encode (IntKind.wrap .i32 n22)).data.toList)).bind fun y31=>if (!y31)=true then some ((x12++(Utf8.encode (IntKind.wrap .i32 n22)).data.toList),true)
 else if (l23++([(x12++(Utf8.encode (IntKind.wrap .i32 n22)).data.toList)]:List B8)).length*16<=140737488355328 then k25 (l23++([(x12++(Utf8.encode (IntKind.wrap .i32 n22)).data.toList)]:List B8)) else none else none)
 else k18 l23
def ic(F:Nat)(a1:B8)(a2:(List B8))(a3:(List B8))(k4:Option (B8×Bool)):Nat->Int->(List B8)->Option (B8×Bool)
 |0,_,_=>none
 |n+1,n7,l8=>if (decide (n7<((l8.length:Nat):Int)))=true then jn (fun(l11:List B8)=>ic F a1 a2 a3 k4 n (bh (n7+1)) l11) (fun k10=>(cq l8 n7).bind fun x12=>(JW F a3 x12).bind fun y14=>if (!y14)=true then some (x12,true)
 else if ((x12.length:Int)==1000)=true then k10 l8
 else jn (fun(l19:List B8)=>k10 l19) (fun k18=>ja F a1 a2 a3 x12 k18 F 32 l8))
 else k4
def GQ(F:Nat)(a1:B8)(a2:(List B8))(a3:(List B8)):Option (B8×Bool):=
 jn (some (([]:B8),false)) (fun k4=>ic F a1 a2 a3 k4 F 0 ([a1]:List B8))
def C0(F:Nat)(a1:List B8):Option (List B8):=if a1.length<4611686018427387904 then some (eQ a1) else none
def CU(F:Nat)(a1:List B8):Option (List B8):=if a1.length<=140737488355328 then some (BA a1) else none
def ii(F:Nat)(a1:ae)(k10:(List B8)->Option (List B8)):List B8->(List B8)->Option (List B8)
  |[],l15=>k10 l15
  |x17::tl1,l15=>(GQ F x17 a1.begins a1.is).bind fun y19=>jn (fun(l22:List B8)=>ii F a1 k10 tl1 l22) (fun k21=>if (y19.2)=true then if (l15++([(y19.1)]:List B8)).length*16<=140737488355328 then k21 (l15++([(y19.1)]:List B8)) else none
 else k21 l15)
def qW(F:Nat)(a1:ae):Option (List B8):=
 (Oq F a1.is).bind fun y2=>(JW F a1.begins ([]:B8)).bind fun y4=>jn (fun(l7:List B8)=>jn (fun(l11:List B8)=>(C0 F l11).bind fun y26=>if y26.length=l11.length then (CU F y26).bind fun y29=>some y29 else none) (fun k10=>ii F a1 k10 l7 y2)) (fun k6=>if (!y4)=true then if (([([]:B8)]:List B8)++a1.begins).length*16<=140737488355328 then k6 (([([]:B8)]:List B8)++a1.begins) else none
 else k6 a1.begins)
def iL(R0:((List (aa×Bool))×(List (B8×(List aa))))->aa->Option ((List (aa×Bool))×(List (B8×(List aa)))))(F:Nat)(x51:B8)(k53:(List (aa×Bool))->(List (B8×(List aa)))->Option ((List (aa×Bool))×(List (B8×(List aa))))):List aa->(List (aa×Bool))->(List (B8×(List aa)))->Option ((List (aa×Bool))×(List (B8×(List aa))))
 |[],m60,m61=>k53 m60 m61
 |x63::tl4,m60,m61=>(R0 (m60,m61) (aa.mk true x63.hasNumber x51 x63.number)).bind fun y65=>iL R0 F x51 k53 tl4 (y65.1) (y65.2)
def eM(R0:((List (aa×Bool))×(List (B8×(List aa))))->aa->Option ((List (aa×Bool))×(List (B8×(List aa)))))(F:Nat)(l12:List aa):List B8->(List (aa×Bool))->(List (B8×(List aa)))->Option ((List (aa×Bool))×(List (B8×(List aa))))
 |[],m45,m46=>some (m45,m46)
 |x51::tl3,m45,m46=>jn (fun(m49:List (aa×Bool)) (m50:List (B8×(List aa)))=>eM R0 F l12 tl3 m49 m50) (fun k48=>jn (fun(m54:List (aa×Bool)) (m55:List (B8×(List aa)))=>k48 m54 m55) (fun k53=>iL R0 F x51 k53 l12 m45 m46))
def gf(R0:((List (aa×Bool))×(List (B8×(List aa))))->aa->Option ((List (aa×Bool))×(List (B8×(List aa)))))(F:Nat)(k22:(List (aa×Bool))->(List (B8×(List aa)))->Option ((List (aa×Bool))×(List (B8×(List aa))))):List aa->(List (aa×Bool))->(List (B8×(List aa)))->Option ((List (aa×Bool))×(List (B8×(List aa))))
 |[],m29,m30=>k22 m29 m30
 |x32::tl2,m29,m30=>(R0 (m29,m30) x32).bind fun y34=>gf R0 F k22 tl2 (y34.1) (y34.2)
def gO(F:Nat)(k11:(List aa)->Option ((List (aa×Bool))×(List (B8×(List aa))))):List Int->(List aa)->Option ((List (aa×Bool))×(List (B8×(List aa))))
 |[],l16=>k11 l16
 |x18::tl1,l16=>if (l16++([(aa.mk false true ([]:B8) x18)]:List aa)).length*32<=140737488355328 then gO F k11 tl1 (l16++([(aa.mk false true ([]:B8) x18)]:List aa)) else none
def Oe(R0:((List (aa×Bool))×(List (B8×(List aa))))->aa->Option ((List (aa×Bool))×(List (B8×(List aa)))))(F:Nat)(a1:List B8)(a2:List B8)(a3:List Int)(a4:Bool)(a5:Bool)(a6:Bool)(a7:Int)(q0:List (aa×Bool))(q1:List (B8×(List aa))):Option ((List (aa×Bool))×(List (B8×(List aa)))):=
 if a5=true then (za F (ae.mk a1 a2 a3 a4 a5 a6 a7)).bind fun y9=>jn (fun(l12:List aa)=>jn (fun(m23:List (aa×Bool)) (m24:List (B8×(List aa)))=>if (!a4)=true then if (!a6)=true then some (m23,m24)
 else (qW F (ae.mk a1 a2 a3 a4 a5 a6 a7)).bind fun y39=>eM R0 F l12 y39 m23 m24
 else (qW F (ae.mk a1 a2 a3 a4 a5 a6 a7)).bind fun y69=>eM R0 F l12 y69 m23 m24) (fun k22=>gf R0 F k22 l12 q0 q1)) (fun k11=>gO F k11 y9 ([(aa.mk false false ([]:B8) 0)]:List aa))
 else jn (fun(l100:List aa)=>jn (fun(m116:List (aa×Bool)) (m117:List (B8×(List aa)))=>if (!a4)=true then if (!a6)=true then some (m116,m117)
 else (qW F (ae.mk a1 a2 a3 a4 a5 a6 a7)).bind fun y132=>eM R0 F l100 y132 m116 m117
 else (qW F (ae.mk a1 a2 a3 a4 a5 a6 a7)).bind fun y162=>eM R0 F l100 y162 m116 m117) (fun k115=>gf R0 F k115 l100 q0 q1)) (fun k99=>if a6=true then (za F (ae.mk a1 a2 a3 a4 a5 a6 a7)).bind fun y102=>jn (fun(l105:List aa)=>k99 l105) (fun k104=>gO F k104 y102 ([(aa.mk false false ([]:B8) 0)]:List aa))
 else k99 ([(aa.mk false false ([]:B8) 0)]:List aa))
def kE(F:Nat)(x48:B8)(m56:List (aa×Bool))(m57:List (B8×(List aa)))(v53:aa):Option ((List (aa×Bool))×(List (B8×(List aa)))):=
 jn (fun(m59:List (aa×Bool)) (m60:List (B8×(List aa)))=>some (m59,m60)) (fun k58=>if (!((aY m56 v53).getD false))=true then if (((aY m57 x48).getD [])++([v53]:List aa)).length*32<=140737488355328 then k58 (co m56 v53 true) (co m57 x48 (((aY m57 x48).getD [])++([v53]:List aa))) else none
 else k58 m56 m57)
def mD(F:Nat)(a1:(List (B8×(Option ae))))(k38:(List B8)->(List (B8×(List aa)))->Option ((List (B8×(List aa)))×(List B8))):List B8->(List B8)->(List (B8×(List aa)))->Option ((List (B8×(List aa)))×(List B8))
 |[],l45,m46=>k38 l45 m46
 |x48::tl1,l45,m46=>if (l45++([x48]:List B8)).length*16<=140737488355328 then (((aY a1 x48).getD (none:Option ae))).bind fun x51=>(Oe (fun p x=>kE F x48 p.1 p.2 x) F x51.is x51.begins x51.numbers x51.asText x51.asNo x51.has x51.weight ([]:List (aa×Bool)) m46).bind fun y63=>mD F a1 k38 tl1 (l45++([x48]:List B8)) (y63.2) else none
def MI(F:Nat)(a1:(List (B8×(Option ae))))(a2:List KV)(a3:Int):Option ((List (B8×(List aa)))×(List B8)):=
 (xJ a1).bind fun l36=>jn (fun(l39:List B8) (m40:List (B8×(List aa)))=>some (m40,l39)) (fun k38=>mD F a1 k38 l36 ([]:List B8) ([]:List (B8×(List aa))))
def Ay(F:Nat)(a1:av)(a2:B8):Option (aa×Bool):=
 if a1.known.isNone=true then some (((aY a1.by_ a2).getD (aa.mk false false ([]:B8) 0)),true)
 else some (((aY a1.by_ a2).getD (aa.mk false false ([]:B8) 0)),((aY (a1.known.getD []) a2).getD false))
def GA(F:Nat)(a1:Bool):Option Int:=
 if a1=true then some 1
 else some 2
def GM(F:Nat)(a1:da)(a2:av):Option Int:=
 (Ay F a2 a1.name).bind fun y3=>if (!(y3.2))=true then some 0
 else if (y3.1).hasText=true then (JW F a1.texts (y3.1).text).bind fun y7=>(GA F y7).bind fun y9=>some y9
 else (GA F false).bind fun y11=>some y11
def IG(F:Nat)(a1:B8)(a2:Bool)(a3:Bool)(a4:B8)(a5:Int):Option Bool:=
 (CX F a4 a1).bind fun y6=>some y6
def gj(F:Nat)(a2:Bool)(a3:Bool)(a4:B8)(a5:Int)(k6:Option Int):List B8->Int->Option Int
  |[],n8=>k6
  |x10::tl1,n8=>(IG F x10 a2 a3 a4 a5).bind fun y12=>if y12=true then some n8
 else gj F a2 a3 a4 a5 k6 tl1 (n8+1)
def w8(F:Nat)(a1:(List B8))(a2:Bool)(a3:Bool)(a4:B8)(a5:Int):Option Int:=
 jn (some (-1)) (fun k6=>gj F a2 a3 a4 a5 k6 a1 0)
def tr(F:Nat)(a1:(List B8))(a2:Bool)(a3:Bool)(a4:B8)(a5:Int):Option Bool:=
 (w8 F a1 a2 a3 a4 a5).bind fun y6=>some (decide (y6>=0))
def GL(F:Nat)(a1:cx)(a2:av):Option Int:=
 (Ay F a2 a1.name).bind fun y3=>if (!(y3.2))=true then some 0
 else if (y3.1).hasText=true then (tr F a1.texts (y3.1).hasText (y3.1).hasNumber (y3.1).text (y3.1).number).bind fun y7=>(GA F y7).bind fun y9=>some y9
 else (GA F false).bind fun y11=>some y11
def GK(F:Nat)(a1:cU)(a2:av):Option Int:=
 (Ay F a2 a1.name).bind fun y3=>if (!(y3.2))=true then some 0
 else if (y3.1).hasText=true then (GA F true).bind fun y7=>some y7
 else (GA F (y3.1).hasNumber).bind fun y9=>some y9
def GI(F:Nat)(a1:Int)(a2:Int)(a3:Int):Option Bool:=
 if (a2==1)=true then some (decide (a1<a3))
 else if (a2==2)=true then some (decide (a1<=a3))
 else if (a2==3)=true then some (a1==a3)
 else if (a2==4)=true then some (decide (a1>=a3))
 else some (decide (a1>a3))
def GJ(F:Nat)(a1:cw)(a2:av):Option Int:=
 (Ay F a2 a1.name).bind fun y3=>if (!(y3.2))=true then some 0
 else if (y3.1).hasNumber=true then (GI F (y3.1).number a1.op a1.n).bind fun y7=>(GA F y7).bind fun y9=>some y9
 else (GA F false).bind fun y11=>some y11
def Om(F:Nat)(a1:Int):Option Int:=
 if (a1==1)=true then some 2
 else if (a1==2)=true then some 1
 else some 0
def GH(Riholds:KV->av->Option Int)(F:Nat)(a1:cT)(a2:av):Option Int:=
 (Riholds a1.kid a2).bind fun y3=>(Om F y3).bind fun y5=>some y5
def hX(Riholds:KV->av->Option Int)(F:Nat)(a2:av)(k3:Int->Option Int):List KV->Int->Option Int
  |[],n7=>k3 n7
  |x10::tl1,n7=>(Riholds x10 a2).bind fun y12=>jn (fun(n15:Int)=>hX Riholds F a2 k3 tl1 n15) (fun k14=>if (y12==2)=true then some 2
 else if (y12==0)=true then k14 0
 else k14 n7)
def Mf(Riholds:KV->av->Option Int)(F:Nat)(a1:cW)(a2:av):Option Int:=
 jn (fun(n4:Int)=>some n4) (fun k3=>hX Riholds F a2 k3 a1.kids 1)
def hO(Riholds:KV->av->Option Int)(F:Nat)(a2:av)(k3:Int->Option Int):List KV->Int->Option Int
  |[],n7=>k3 n7
  |x10::tl1,n7=>(Riholds x10 a2).bind fun y12=>jn (fun(n15:Int)=>hO Riholds F a2 k3 tl1 n15) (fun k14=>if (y12==1)=true then some 1
 else if (y12==0)=true then k14 0
 else k14 n7)
def Me(Riholds:KV->av->Option Int)(F:Nat)(a1:cV)(a2:av):Option Int:=
 jn (fun(n4:Int)=>some n4) (fun k3=>hO Riholds F a2 k3 a1.kids 2)
def Md(F:Nat)(a1:cK)(a2:av):Option Int:=
 some 1
def jT(Riholds:KV->av->Option Int)(F:Nat)(k:KV)(a1:av):Option Int:=
 HH (gF bQ 147 k) (fun y=>GM F y a1) (HH (gF br 148 k) (fun y=>GL F y a1) (HH (gF bR 150 k) (fun y=>GK F y a1) (HH (gF bq 152 k) (fun y=>GJ F y a1) (HH (gF cf 154 k) (fun y=>GH Riholds F y a1) (HH (gF bT 156 k) (fun y=>Mf Riholds F y a1) (HH (gF bS 157 k) (fun y=>Me Riholds F y a1) (HH (gF cm 159 k) (fun y=>Md F y a1) (none))))))))
def fM:Nat->KV->av->Option Int
 |0,_,_=>none
 |F+1,k,a1=>jT (fM F) F k a1
def js(F:Nat)(a2:Int)(a3:av)(k5:Int->Option Int):List KV->Int->Int->Option Int
  |[],n10,n9=>k5 n9
  |x12::tl1,n10,n9=>(fM F x12 a3).bind fun y14=>jn (fun(n17:Int)=>jn (fun(n22:Int)=>js F a2 a3 k5 tl1 (n10+1) n22) (fun k21=>if (n17==2)=true then some 2
 else if (n17==0)=true then k21 0
 else k21 n9)) (fun k16=>if (decide (n10<a2))=true then (Om F y14).bind fun y19=>k16 y19
 else k16 y14)
def OO(F:Nat)(a1:(List KV))(a2:Int)(a3:av):Option Int:=
 if 0<=(bh (a2+1))/\(bh (a2+1)).toNat<=a1.length then jn (fun(n6:Int)=>some n6) (fun k5=>js F a2 a3 k5 (a1.take (bh (a2+1)).toNat) 0 1) else none
def LW(F:Nat)(a1:av)(a2:List KV)(a3:Int):Option Int:=
 (OO F a2 a3 a1).bind fun y4=>some y4
def gQ(R36:Int->(List (B8×(List aa)))->(List KV)->Int->(List B8)->(List (B8×aa))->(List (B8×Bool))->Option (Bool×(List (B8×aa))×(List (B8×Bool))))(F:Nat)(a1:Int)(a2:(List (B8×(List aa))))(a3:List KV)(a4:Int)(a5:List B8)(x39:B8)(k41:(List (B8×aa))->(List (B8×Bool))->Option (Bool×(List (B8×aa))×(List (B8×Bool)))):List aa->(List (B8×aa))->(List (B8×Bool))->Option (Bool×(List (B8×aa))×(List (B8×Bool)))
  |[],m48,m49=>k41 m48 m49
  |x51::tl1,m48,m49=>(R36 (bh (a1+1)) a2 a3 a4 a5 (co m48 x39 x51) m49).bind fun y53=>if (y53.1)=true then some (true,(y53.2.1),(y53.2.2))
 else gQ R36 F a1 a2 a3 a4 a5 x39 k41 tl1 (y53.2.1) (y53.2.2)
def lg(R36:Int->(List (B8×(List aa)))->(List KV)->Int->(List B8)->(List (B8×aa))->(List (B8×Bool))->Option (Bool×(List (B8×aa))×(List (B8×Bool))))(F:Nat)(a1:Int)(a2:(List (B8×(List aa))))(a3:List KV)(a4:Int)(a5:List B8)(a6:List (B8×aa))(a7:List (B8×Bool)):Option (Bool×(List (B8×aa))×(List (B8×Bool))):=
 (LW F (av.mk a6 (some a7)) a3 a4).bind fun y34=>if (y34==1)=true then some (true,a6,a7)
 else if (y34==2)=true then some (false,a6,a7)
 else if (a1==((a5.length:Nat):Int))=true then some (false,a6,a7)
 else (cq a5 a1).bind fun x39=>jn (fun(m42:List (B8×aa)) (m43:List (B8×Bool))=>some (false,(fC m42 x39),(fC m43 x39))) (fun k41=>gQ R36 F a1 a2 a3 a4 a5 x39 k41 ((aY a2 x39).getD ([]:(List aa))) a6 (co a7 x39 true))
def w5:Nat->Int->(List (B8×(List aa)))->(List KV)->Int->(List B8)->(List (B8×aa))->(List (B8×Bool))->Option (Bool×(List (B8×aa))×(List (B8×Bool)))
 |0,_,_,_,_,_,_,_=>none
 |F+1,a1,a2,a3,a4,a5,a6,a7=>lg (w5 F) F a1 a2 a3 a4 a5 a6 a7
def mG(F:Nat)(y22:((List (B8×(Option ae)))×(List KV)))(k27:(List Int)->Option ((List Int)×Int)):List Int->Int->(List Int)->Option ((List Int)×Int)
  |[],n31,l32=>k27 l32
  |x34::tl2,n31,l32=>(MI F (y22.1) (y22.2) n31).bind fun y36=>(w5 F 0 (y36.1) (y22.2) n31 (y36.2) ([]:List (B8×aa)) ([]:List (B8×Bool))).bind fun y38=>jn (fun(l41:List Int)=>mG F y22 k27 tl2 (n31+1) l41) (fun k40=>if (!(y38.1))=true then if (l32++([x34]:List Int)).length*8<=140737488355328 then k40 (l32++([x34]:List Int)) else none
 else k40 l32)
def kH(F:Nat)(a1:aW)(k5:(List Int)->Option ((List Int)×Int)):List ay->(List (B8×Bool))->(List Int)->Option ((List Int)×Int)
  |[],m11,l12=>k5 l12
  |x17::tl1,m11,l12=>jn (fun(m15:List (B8×Bool)) (l16:List Int)=>kH F a1 k5 tl1 m15 l16) (fun k14=>if ((aY m11 x17.About).getD false)=true then k14 m11 l12
 else (Oj F a1 x17.About).bind fun y20=>(Oi F a1 y20 ([]:List (B8×(Option ae)))).bind fun y22=>(Oo F (y22.1)).bind fun y24=>if (!y24)=true then some (([]:List Int),3)
 else jn (fun(l28:List Int)=>k14 (co m11 x17.About true) l28) (fun k27=>mG F y22 k27 y20 0 l12))
def JZ(F:Nat)(a1:aW):Option ((List Int)×Int):=
 (Ok F a1).bind fun y2=>if (y2 != 0)=true then some (([]:List Int),y2)
 else jn (fun(l6:List Int)=>(LU F l6).bind fun y46=>if y46.length=l6.length then some (y46,0) else none) (fun k5=>kH F a1 k5 a1.Rules ([]:List (B8×Bool)) ([]:List Int))
def mi(F:Nat)(a1:B8)(k2:Option Bool):Nat->Int->Option Bool
  |0,n4=>k2
  |tl1+1,n4=>if 0<=n4/\n4.toNat<20 then if (((s8 [] [([114,117,108,101]:B8),([97,98,111,117,116]:B8),([119,104,101,110]:B8),([119,97,105,118,101]:B8),([102,111,114]:B8),([102,114,111,109]:B8),([116,111]:B8),([98,121]:B8),([97,115]:B8),([112,97,115,115]:B8),([110,111,116,101]:B8),([119,97,114,110]:B8),([100,101,110,121]:B8),([111,114]:B8),([97,110,100]:B8),([116,114,117,101]:B8),([105,115]:B8),([98,101,103,105,110,115]:B8),([104,97,115]:B8),([110,111,116]:B8)]) n4.toNat)==a1)=true then some true
 else mi F a1 k2 tl1 (n4+1) else none
def Od(F:Nat)(a1:B8):Option Bool:=
 jn (some false) (fun k2=>if (20:Int)<=9223372036854775807 then mi F a1 k2 ((20:Int).toNat) 0 else none)
def Oc(F:Nat)(a1:Int):Option Bool:=
 if (decide (a1>=97))=true then if (decide (a1<=122))=true then some true
 else if (decide (a1>=48))=true then if (decide (a1<=57))=true then some true
 else some (a1==45)
 else some (a1==45)
 else if (decide (a1>=48))=true then if (decide (a1<=57))=true then some true
 else some (a1==45)
 else some (a1==45)
def oh(F:Nat)(a1:B8)(k13:Option Bool):Nat->Int->Option Bool
  |0,n15=>k13
  |tl1+1,n15=>(cq a1 n15).bind fun c17=>(Oc F (c17.toNat:Int)).bind fun y19=>if (!y19)=true then some false
 else oh F a1 k13 tl1 (n15+1)
def zk(F:Nat)(a1:B8):Option Bool:=
 if (a1==([]:B8))=true then some false
 else if (decide ((a1.length:Int)>40))=true then some false
 else (cq a1 0).bind fun c4=>if (decide ((c4.toNat:Int)<97))=true then some false
 else (cq a1 0).bind fun c7=>if (decide ((c7.toNat:Int)>122))=true then some false
 else (Od F a1).bind fun y10=>if y10=true then some false
 else jn (some true) (fun k13=>if (a1.length:Int)<=9223372036854775807 then oh F a1 k13 (((a1.length:Int):Int).toNat) 0 else none)
def kJ(F:Nat)(a2:B8)(k3:Option Int):List ay->Int->Option Int
  |[],n5=>k3
  |x7::tl1,n5=>if (x7.Name==a2)=true then some n5
 else kJ F a2 k3 tl1 (n5+1)
def CW(F:Nat)(a1:(List ay))(a2:B8):Option Int:=
 jn (some (-1)) (fun k3=>kJ F a2 k3 a1 0)
def nZ(R92:aG->Int->Option Int)(F:Nat)(a1:aG)(a2:Int)(k3:Int->Option Int):Nat->Int->Int->Option Int
 |0,_,_=>none
 |n+1,n7,n8=>if (decide (n8<((a1.Kids.length:Nat):Int)))=true then if (decide (n7<=a2))=true then (cq a1.Kids n8).bind fun x11=>(dM ah x11).bind fun y13=>(R92 y13 (bh (a2 - n7))).bind fun y15=>nZ R92 F a1 a2 k3 n (bh (n7+y15)) (bh (n8+1))
 else k3 n7
 else k3 n7
def yW(R92:aG->Int->Option Int)(F:Nat)(a1:aG)(a2:Int):Option Int:=
 jn (fun(n4:Int)=>some n4) (fun k3=>nZ R92 F a1 a2 k3 F 1 0)
def JT:Nat->aG->Int->Option Int
 |0,_,_=>none
 |F+1,a1,a2=>yW (JT F) F a1 a2
def ml(R93:aG->Option Int)(F:Nat)(a1:aG)(k2:Int->Option Int):Nat->Int->Int->Option Int
 |0,n7,n6=>k2 n6
 |tl1+1,n7,n6=>(cq a1.Kids n7).bind fun x9=>(dM ah x9).bind fun y11=>(R93 y11).bind fun y13=>ml R93 F a1 k2 tl1 (n7+1) (if y13>n6 then y13 else n6)
def yU(R93:aG->Option Int)(F:Nat)(a1:aG):Option Int:=
 jn (fun(n3:Int)=>some (bh (n3+1))) (fun k2=>if ((a1.Kids.length:Nat):Int)<=9223372036854775807 then ml R93 F a1 k2 ((((a1.Kids.length:Nat):Int):Int).toNat) 0 0 else none)
def JS:Nat->aG->Option Int
 |0,_=>none
 |F+1,a1=>yU (JS F) F a1
def tp(F:Nat)(a1:Int)(a2:Int)(a3:Int):Option Bool:=
 if (decide (a1<a2))=true then some true
 else some (decide (a1>a3))
def p9(F:Nat)(a1:aG):Option Int:=
 (tp F a1.Kind 1 8).bind fun y2=>if y2=true then some 7
 else if (decide (a1.Kind>=2))=true then if (a1.Kind==2)=true then jn (fun(b8:Bool)=>if (!(decide (a1.Kind<=5)))=true then if (!(a1.Name==([]:B8)))=true then some 2
 else if (!(a1.Kind==5))=true then if (a1.Op != 0)=true then some 2
 else if (a1.N != 0)=true then some 2
 else if (!b8)=true then some 2
 else some 0
 else if (!b8)=true then some 2
 else some 0
 else if (!(a1.Kind==5))=true then if (a1.Op != 0)=true then some 2
 else if (a1.N != 0)=true then some 2
 else if (!b8)=true then some 2
 else some 0
 else if (!b8)=true then some 2
 else some 0) (fun k7=>if (a1.Kind==6)=true then k7 (((a1.Kids.length:Nat):Int)==1)
 else jn (fun(b11:Bool)=>if b11=true then k7 (decide (((a1.Kids.length:Nat):Int)>=2))
 else k7 (((a1.Kids.length:Nat):Int)==0)) (fun k10=>if (a1.Kind==7)=true then k10 (a1.Kind==7)
 else k10 (a1.Kind==8)))
 else jn (fun(b27:Bool)=>if (!(decide (a1.Kind<=5)))=true then if (!(a1.Name==([]:B8)))=true then some 2
 else if (!(a1.Kind==3))=true then if (decide (((a1.Texts.length:Nat):Int)>0))=true then some 2
 else if (!(a1.Kind==5))=true then if (a1.Op != 0)=true then some 2
 else if (a1.N != 0)=true then some 2
 else if (!b27)=true then some 2
 else some 0
 else if (!b27)=true then some 2
 else some 0
 else if (!(a1.Kind==5))=true then if (a1.Op != 0)=true then some 2
 else if (a1.N != 0)=true then some 2
 else if (!b27)=true then some 2
 else some 0
 else if (!b27)=true then some 2
 else some 0
 else if (!(a1.Kind==3))=true then if (decide (((a1.Texts.length:Nat):Int)>0))=true then some 2
 else if (!(a1.Kind==5))=true then if (a1.Op != 0)=true then some 2
 else if (a1.N != 0)=true then some 2
 else if (!b27)=true then some 2
 else some 0
 else if (!b27)=true then some 2
 else some 0
 else if (!(a1.Kind==5))=true then if (a1.Op != 0)=true then some 2
 else if (a1.N != 0)=true then some 2
 else if (!b27)=true then some 2
 else some 0
 else if (!b27)=true then some 2
 else some 0) (fun k26=>if (a1.Kind==6)=true then k26 (((a1.Kids.length:Nat):Int)==1)
 else jn (fun(b30:Bool)=>if b30=true then k26 (decide (((a1.Kids.length:Nat):Int)>=2))
 else k26 (((a1.Kids.length:Nat):Int)==0)) (fun k29=>if (a1.Kind==7)=true then k29 (a1.Kind==7)
 else k29 (a1.Kind==8)))
 else if (a1.Kind==2)=true then jn (fun(b61:Bool)=>if (!(a1.Name==([]:B8)))=true then some 2
 else if (!(a1.Kind==5))=true then if (a1.Op != 0)=true then some 2
 else if (a1.N != 0)=true then some 2
 else if (!b61)=true then some 2
 else some 0
 else if (!b61)=true then some 2
 else some 0) (fun k60=>if (a1.Kind==6)=true then k60 (((a1.Kids.length:Nat):Int)==1)
 else jn (fun(b64:Bool)=>if b64=true then k60 (decide (((a1.Kids.length:Nat):Int)>=2))
 else k60 (((a1.Kids.length:Nat):Int)==0)) (fun k63=>if (a1.Kind==7)=true then k63 (a1.Kind==7)
 else k63 (a1.Kind==8)))
 else jn (fun(b74:Bool)=>if (!(a1.Name==([]:B8)))=true then some 2
 else if (!(a1.Kind==3))=true then if (decide (((a1.Texts.length:Nat):Int)>0))=true then some 2
 else if (!(a1.Kind==5))=true then if (a1.Op != 0)=true then some 2
 else if (a1.N != 0)=true then some 2
 else if (!b74)=true then some 2
 else some 0
 else if (!b74)=true then some 2
 else some 0
 else if (!(a1.Kind==5))=true then if (a1.Op != 0)=true then some 2
 else if (a1.N != 0)=true then some 2
 else if (!b74)=true then some 2
 else some 0
 else if (!b74)=true then some 2
 else some 0) (fun k73=>if (a1.Kind==6)=true then k73 (((a1.Kids.length:Nat):Int)==1)
 else jn (fun(b77:Bool)=>if b77=true then k73 (decide (((a1.Kids.length:Nat):Int)>=2))
 else k73 (((a1.Kids.length:Nat):Int)==0)) (fun k76=>if (a1.Kind==7)=true then k76 (a1.Kind==7)
 else k76 (a1.Kind==8)))
def oe(F:Nat)(a1:B8)(k3:Option Bool):Nat->Int->Option Bool
  |0,n5=>k3
  |tl1+1,n5=>(cq a1 n5).bind fun c7=>if (decide ((c7.toNat:Int)<32))=true then some false
 else (cq a1 n5).bind fun c10=>if (decide ((c10.toNat:Int)>126))=true then some false
 else oe F a1 k3 tl1 (n5+1)
def MD(F:Nat)(a1:B8):Option Bool:=
 if (decide ((a1.length:Int)>1000))=true then some false
 else jn (some true) (fun k3=>if (a1.length:Int)<=9223372036854775807 then oe F a1 k3 (((a1.length:Int):Int).toNat) 0 else none)
def dy(F:Nat)(a1:aG)(k13:Option Int):List B8->Int->Option Int
  |[],n15=>k13
  |x18::tl1,n15=>jn (dy F a1 k13 tl1 (n15+1)) (fun k17=>(MD F x18).bind fun y20=>if (!y20)=true then some 2
 else if (decide (n15>0))=true then (cq a1.Texts n15).bind fun x24=>(cq a1.Texts (bh (n15 - 1))).bind fun x26=>if (Op.bytesLess x24 x26||x24==x26)=true then some 10
 else k17
 else k17)
def jv(F:Nat)(a1:aG):Option Int:=
 (p9 F a1).bind fun y2=>if (y2 != 0)=true then some y2
 else if (decide (a1.Kind>=2))=true then if (decide (a1.Kind<=5))=true then (zk F a1.Name).bind fun y7=>if (!y7)=true then some 8
 else if (a1.Kind==2)=true then if (((a1.Texts.length:Nat):Int)==0)=true then some 13
 else if (decide (((a1.Texts.length:Nat):Int)>50))=true then some 3
 else jn (jn (some 0) (fun k30=>if (a1.Kind==5)=true then (tp F a1.Op 1 5).bind fun y32=>if y32=true then some 7
 else (tp F a1.N (-1000000000000) 1000000000000).bind fun y35=>if y35=true then some 9
 else k30
 else k30)) (fun k13=>dy F a1 k13 a1.Texts 0)
 else jn (jn (some 0) (fun k59=>if (a1.Kind==5)=true then (tp F a1.Op 1 5).bind fun y61=>if y61=true then some 7
 else (tp F a1.N (-1000000000000) 1000000000000).bind fun y64=>if y64=true then some 9
 else k59
 else k59)) (fun k38=>if (a1.Kind==3)=true then if (((a1.Texts.length:Nat):Int)==0)=true then some 13
 else if (decide (((a1.Texts.length:Nat):Int)>50))=true then some 3
 else jn (k38) (fun k42=>dy F a1 k42 a1.Texts 0)
 else k38)
 else if (a1.Kind==2)=true then if (((a1.Texts.length:Nat):Int)==0)=true then some 13
 else if (decide (((a1.Texts.length:Nat):Int)>50))=true then some 3
 else jn (jn (some 0) (fun k87=>if (a1.Kind==5)=true then (tp F a1.Op 1 5).bind fun y89=>if y89=true then some 7
 else (tp F a1.N (-1000000000000) 1000000000000).bind fun y92=>if y92=true then some 9
 else k87
 else k87)) (fun k70=>dy F a1 k70 a1.Texts 0)
 else jn (jn (some 0) (fun k116=>if (a1.Kind==5)=true then (tp F a1.Op 1 5).bind fun y118=>if y118=true then some 7
 else (tp F a1.N (-1000000000000) 1000000000000).bind fun y121=>if y121=true then some 9
 else k116
 else k116)) (fun k95=>if (a1.Kind==3)=true then if (((a1.Texts.length:Nat):Int)==0)=true then some 13
 else if (decide (((a1.Texts.length:Nat):Int)>50))=true then some 3
 else jn (k95) (fun k99=>dy F a1 k99 a1.Texts 0)
 else k95)
 else if (a1.Kind==2)=true then if (((a1.Texts.length:Nat):Int)==0)=true then some 13
 else if (decide (((a1.Texts.length:Nat):Int)>50))=true then some 3
 else jn (jn (some 0) (fun k144=>if (a1.Kind==5)=true then (tp F a1.Op 1 5).bind fun y146=>if y146=true then some 7
 else (tp F a1.N (-1000000000000) 1000000000000).bind fun y149=>if y149=true then some 9
 else k144
 else k144)) (fun k127=>dy F a1 k127 a1.Texts 0)
 else jn (jn (some 0) (fun k173=>if (a1.Kind==5)=true then (tp F a1.Op 1 5).bind fun y175=>if y175=true then some 7
 else (tp F a1.N (-1000000000000) 1000000000000).bind fun y178=>if y178=true then some 9
 else k173
 else k173)) (fun k152=>if (a1.Kind==3)=true then if (((a1.Texts.length:Nat):Int)==0)=true then some 13
 else if (decide (((a1.Texts.length:Nat):Int)>50))=true then some 3
 else jn (k152) (fun k156=>dy F a1 k156 a1.Texts 0)
 else k152)
def mj(R94:aG->Option Int)(F:Nat)(a1:aG)(k5:Option Int):Nat->Int->Option Int
  |0,n7=>k5
  |tl1+1,n7=>(cq a1.Kids n7).bind fun x9=>(dM ah x9).bind fun y11=>(R94 y11).bind fun y13=>if (y13 != 0)=true then some y13
 else mj R94 F a1 k5 tl1 (n7+1)
def yT(R94:aG->Option Int)(F:Nat)(a1:aG):Option Int:=
 (jv F a1).bind fun y2=>if (y2 != 0)=true then some y2
 else jn (some 0) (fun k5=>if ((a1.Kids.length:Nat):Int)<=9223372036854775807 then mj R94 F a1 k5 ((((a1.Kids.length:Nat):Int):Int).toNat) 0 else none)
def JR:Nat->aG->Option Int
 |0,_=>none
 |F+1,a1=>yT (JR F) F a1
def MH(F:Nat)(a1:aG):Option Int:=
 (JT F a1 60).bind fun y2=>if (decide (y2>60))=true then some 3
 else (JS F a1).bind fun y5=>if (decide (y5>12))=true then some 3
 else (JR F a1).bind fun y8=>some y8
def GY(F:Nat)(a1:aW)(a2:Int):Option Int:=
 (cq a1.Rules a2).bind fun x3=>(zk F x3.Name).bind fun y5=>if (!y5)=true then some 8
 else if 0<=a2/\a2.toNat<=a1.Rules.length then (CW F (a1.Rules.take a2.toNat) x3.Name).bind fun y9=>if (decide (y9>=0))=true then some 5
 else (zk F x3.About).bind fun y12=>if (!y12)=true then some 8
 else (MH F x3.When).bind fun y15=>if (y15 != 0)=true then some y15
 else (tp F x3.Level 1 4).bind fun y18=>if y18=true then some 7
 else some 0 else none
def kO(F:Nat)(a2:cB)(k9:Option Int):Nat->Int->Option Int
 |0,_=>none
 |n+1,n11=>if (decide ((bh (n11+1))<(a2.Subject.length:Int)))=true then (cq a2.Subject n11).bind fun c13=>if ((c13.toNat:Int)==42)=true then some 2
 else kO F a2 k9 n (bh (n11+1))
 else k9
def GX(F:Nat)(a1:aW)(a2:cB):Option Int:=
 (CW F a1.Rules a2.Rule).bind fun y3=>if (decide (y3<0))=true then some 4
 else (MD F a2.Subject).bind fun y6=>if (!y6)=true then some 2
 else jn ((tp F a2.From 0 a2.To).bind fun y16=>if y16=true then some 9
 else if (decide (a2.To>1000000))=true then some 9
 else (zk F a2.Owner).bind fun y20=>if (!y20)=true then some 8
 else (tp F a2.Level 1 3).bind fun y23=>if y23=true then some 7
 else some 0) (fun k9=>kO F a2 k9 F 0)
def mw(F:Nat)(a1:aW)(k12:Option Int):Nat->Int->Option Int
  |0,n14=>k12
  |tl2+1,n14=>(cq a1.Waivers n14).bind fun x16=>(GX F a1 x16).bind fun y18=>if (y18 != 0)=true then some y18
 else mw F a1 k12 tl2 (n14+1)
def my(F:Nat)(a1:aW)(k4:Option Int):Nat->Int->Option Int
  |0,n6=>k4
  |tl1+1,n6=>(GY F a1 n6).bind fun y8=>if (y8 != 0)=true then some y8
 else my F a1 k4 tl1 (n6+1)
def Oh(F:Nat)(a1:aW):Option Int:=
 if (decide (((a1.Rules.length:Nat):Int)>100))=true then some 3
 else if (decide (((a1.Waivers.length:Nat):Int)>200))=true then some 3
 else jn (jn (some 0) (fun k12=>if ((a1.Waivers.length:Nat):Int)<=9223372036854775807 then mw F a1 k12 ((((a1.Waivers.length:Nat):Int):Int).toNat) 0 else none)) (fun k4=>my F a1 k4 ((((a1.Rules.length:Nat):Int):Int).toNat) 0)
def mu(F:Nat)(a1:aW)(a2:B8)(k3:(List Int)->Option (List Int)):Nat->Int->(List Int)->Option (List Int)
  |0,n7,l8=>k3 l8
  |tl1+1,n7,l8=>(cq a1.Rules n7).bind fun x10=>jn (fun(l13:List Int)=>mu F a1 a2 k3 tl1 (n7+1) l13) (fun k12=>if (x10.About==a2)=true then if (l8++([n7]:List Int)).length*8<=140737488355328 then k12 (l8++([n7]:List Int)) else none
 else k12 l8)
def MF(F:Nat)(a1:aW)(a2:B8):Option (List Int):=
 jn (fun(l4:List Int)=>some l4) (fun k3=>if ((a1.Rules.length:Nat):Int)<=9223372036854775807 then mu F a1 a2 k3 ((((a1.Rules.length:Nat):Int):Int).toNat) 0 ([]:List Int) else none)
def ms(F:Nat)(a1:aW)(k3:(List aw)->Option (List aw)):List Int->(List aw)->Option (List aw)
 |[],l8=>k3 l8
 |x10::tl1,l8=>(cq a1.Rules x10).bind fun x12=>if (l8++([dA ah x12.When]:List aw)).length*88<=140737488355328 then ms F a1 k3 tl1 (l8++([dA ah x12.When]:List aw)) else none
def LS(F:Nat)(a1:aW)(a2:(List Int)):Option (List aw):=
 jn (fun(l4:List aw)=>some l4) (fun k3=>ms F a1 k3 a2 ([]:List aw))
def JX(F:Nat)(a1:(List aw)):Option aG:=
 some (aG.mk 7 ([]:B8) ([]:List B8) 0 0 a1)
def kM(F:Nat)(a1:(List B8))(a2:B8)(k3:Int->Option (Int×Bool)):Nat->Int->Int->Option (Int×Bool)
 |0,_,_=>none
 |n+1,n7,n8=>if (decide (n7<n8))=true then (cq a1 (bh (Int.tdiv (bh (n7+n8)) 2))).bind fun x10=>jn (fun(n13:Int) (n14:Int)=>kM F a1 a2 k3 n n13 n14) (fun k12=>if (Op.bytesLess x10 a2)=true then k12 (bh ((bh (Int.tdiv (bh (n7+n8)) 2))+1)) n8
 else k12 n7 (bh (Int.tdiv (bh (n7+n8)) 2)))
 else k3 n7
def zb(F:Nat)(a1:(List B8))(a2:B8):Option (Int×Bool):=
 jn (fun(n4:Int)=>if (decide (n4<((a1.length:Nat):Int)))=true then (cq a1 n4).bind fun x17=>some (n4,(x17==a2))
 else some (n4,false)) (fun k3=>kM F a1 a2 k3 F 0 ((a1.length:Nat):Int))
def xe(F:Nat)(a1:(List B8))(a2:B8):Option (List B8):=
 (zb F a1 a2).bind fun y3=>if (y3.2)=true then some a1
 else if 0<=(y3.1)/\(y3.1).toNat<=a1.length then if (a1.take (y3.1).toNat).length*16<=140737488355328 then if ((a1.take (y3.1).toNat)++([a2]:List B8)).length*16<=140737488355328 then if 0<=(y3.1)/\(y3.1).toNat<=a1.length then if (((a1.take (y3.1).toNat)++([a2]:List B8))++(a1.drop (y3.1).toNat)).length*16<=140737488355328 then some (((a1.take (y3.1).toNat)++([a2]:List B8))++(a1.drop (y3.1).toNat)) else none else none else none else none else none
def mC(R51:aG->(List B8)->Option (List B8))(F:Nat)(a1:aG)(k6:(List B8)->Option (List B8)):Nat->Int->(List B8)->Option (List B8)
 |0,n11,l10=>k6 l10
 |tl1+1,n11,l10=>(cq a1.Kids n11).bind fun x13=>(dM ah x13).bind fun y15=>(R51 y15 l10).bind fun y17=>mC R51 F a1 k6 tl1 (n11+1) y17
def yY(R51:aG->(List B8)->Option (List B8))(F:Nat)(a1:aG)(a2:(List B8)):Option (List B8):=
 if (!(a1.Name==([]:B8)))=true then (xe F a2 a1.Name).bind fun y4=>some y4
 else jn (fun(l7:List B8)=>some l7) (fun k6=>if ((a1.Kids.length:Nat):Int)<=9223372036854775807 then mC R51 F a1 k6 ((((a1.Kids.length:Nat):Int):Int).toNat) 0 a2 else none)
def GG:Nat->aG->(List B8)->Option (List B8)
 |0,_,_=>none
 |F+1,a1,a2=>yY (GG F) F a1 a2
def gE(R97_1:aG->B8->(List aw)->Option (List aw))(F:Nat)(a1:aG)(a2:B8)(k23:(List aw)->Option (List aw)):Nat->Int->(List aw)->Option (List aw)
 |0,n27,l28=>k23 l28
 |tl1+1,n27,l28=>(cq a1.Kids n27).bind fun x30=>(dM ah x30).bind fun y32=>(R97_1 y32 a2 l28).bind fun y34=>gE R97_1 F a1 a2 k23 tl1 (n27+1) y34
def pk(R97_1:aG->B8->(List aw)->Option (List aw))(F:Nat)(a1:aG)(a2:B8)(a3:List aw):Option (List aw):=
 if (a1.Name==a2)=true then if (a3++([dA ah a1]:List aw)).length*88<=140737488355328 then some (a3++([dA ah a1]:List aw)) else none
 else jn (fun(l24:List aw)=>some l24) (fun k23=>if ((a1.Kids.length:Nat):Int)<=9223372036854775807 then gE R97_1 F a1 a2 k23 ((((a1.Kids.length:Nat):Int):Int).toNat) 0 a3 else none)
def qp:Nat->aG->B8->(List aw)->Option (List aw)
 |0,_,_,_=>none
 |F+1,a1,a2,a3=>pk (qp F) F a1 a2 a3
def mh(F:Nat)(a1:aG)(a2:B8)(k22:(List aw)->Option (List aw)):Nat->Int->(List aw)->Option (List aw)
 |0,n26,l27=>k22 l27
 |tl1+1,n26,l27=>(cq a1.Kids n26).bind fun x29=>(dM ah x29).bind fun y31=>(qp F y31 a2 l27).bind fun y33=>mh F a1 a2 k22 tl1 (n26+1) y33
def MB(F:Nat)(a1:aG)(a2:B8):Option (List aw):=
 if (a1.Name==a2)=true then if (([]:List aw)++([dA ah a1]:List aw)).length*88<=140737488355328 then some (([]:List aw)++([dA ah a1]:List aw)) else none
 else jn (fun(l23:List aw)=>some l23) (fun k22=>if ((a1.Kids.length:Nat):Int)<=9223372036854775807 then mh F a1 a2 k22 ((((a1.Kids.length:Nat):Int):Int).toNat) 0 ([]:List aw) else none)
def mg(F:Nat)(a1:(List aw))(k2:Bool->Bool->Bool->Option (Bool×Bool×Bool)):Nat->Int->Bool->Bool->Bool->Option (Bool×Bool×Bool)
  |0,n13,b10,b11,b12=>k2 b10 b11 b12
  |tl1+1,n13,b10,b11,b12=>jn (fun(b16:Bool) (b17:Bool) (b18:Bool)=>mg F a1 k2 tl1 (n13+1) b16 b17 b18) (fun k15=>if b10=true then if b11=true then if b12=true then k15 true true true
 else (cq a1 n13).bind fun x22=>(dM ah x22).bind fun y24=>k15 true true (y24.Kind==4)
 else (cq a1 n13).bind fun x26=>(dM ah x26).bind fun y28=>if b12=true then k15 true (y28.Kind==5) true
 else (cq a1 n13).bind fun x31=>(dM ah x31).bind fun y33=>k15 true (y28.Kind==5) (y33.Kind==4)
 else (cq a1 n13).bind fun x35=>(dM ah x35).bind fun y37=>if (y37.Kind==2)=true then if b11=true then if b12=true then k15 true true true
 else (cq a1 n13).bind fun x42=>(dM ah x42).bind fun y44=>k15 true true (y44.Kind==4)
 else (cq a1 n13).bind fun x46=>(dM ah x46).bind fun y48=>if b12=true then k15 true (y48.Kind==5) true
 else (cq a1 n13).bind fun x51=>(dM ah x51).bind fun y53=>k15 true (y48.Kind==5) (y53.Kind==4)
 else (cq a1 n13).bind fun x55=>(dM ah x55).bind fun y57=>if b11=true then if b12=true then k15 (y57.Kind==3) true true
 else (cq a1 n13).bind fun x61=>(dM ah x61).bind fun y63=>k15 (y57.Kind==3) true (y63.Kind==4)
 else (cq a1 n13).bind fun x65=>(dM ah x65).bind fun y67=>if b12=true then k15 (y57.Kind==3) (y67.Kind==5) true
 else (cq a1 n13).bind fun x70=>(dM ah x70).bind fun y72=>k15 (y57.Kind==3) (y67.Kind==5) (y72.Kind==4))
def LC(F:Nat)(a1:(List aw)):Option (Bool×Bool×Bool):=
 jn (fun(b3:Bool) (b4:Bool) (b5:Bool)=>some (b3,b4,b5)) (fun k2=>mg F a1 k2 ((((a1.length:Nat):Int):Int).toNat) 0 false false false)
def gg(F:Nat)(y16:(List aw))(k18:Int->Option Bool):List aw->Int->Int->Option Bool
  |[],n23,n22=>k18 n22
  |x25::tl2,n23,n22=>(dM ah x25).bind fun y27=>jn (fun(n30:Int)=>gg F y16 k18 tl2 (n23+1) n30) (fun k29=>if (y27.Kind==2)=true then (cq y16 n23).bind fun x32=>(dM ah x32).bind fun y34=>k29 (bh (n22+((y34.Texts.length:Nat):Int)))
 else if (y27.Kind==3)=true then (cq y16 n23).bind fun x37=>(dM ah x37).bind fun y39=>k29 (bh (n22+(bh (2*((y39.Texts.length:Nat):Int)))))
 else if (y27.Kind==5)=true then k29 (bh (n22+2))
 else k29 n22)
def iN(F:Nat)(a1:aG)(y2:(List B8))(k4:Int->Option Bool):Nat->Int->Int->Option Bool
 |0,_,_=>none
 |n+1,n8,n9=>if (decide (n9<((y2.length:Nat):Int)))=true then if (decide (n8<=200000))=true then jn (fun(n13:Int)=>iN F a1 y2 k4 n n13 (bh (n9+1))) (fun k12=>(cq y2 n9).bind fun x14=>(MB F a1 x14).bind fun y16=>jn (fun(n19:Int)=>(LC F y16).bind fun y43=>if (y43.2.2)=true then k12 (bh (n8*(bh (n19+1))))
 else if (y43.1)=true then jn (fun(n48:Int)=>k12 (bh (n8*n48))) (fun k47=>if (y43.2.1)=true then k47 (bh (n19+1))
 else k47 n19)
 else k12 (bh (n8*n19))) (fun k18=>gg F y16 k18 y16 0 2))
 else k4 n8
 else k4 n8
def L2(F:Nat)(a1:aG):Option Bool:=
 (GG F a1 ([]:List B8)).bind fun y2=>jn (fun(n5:Int)=>some (decide (n5>200000))) (fun k4=>iN F a1 y2 k4 F 1 0)
def ON(F:Nat)(a1:aG):Option aG:=
 some (aG.mk 6 ([]:B8) ([]:List B8) 0 0 ([dA ah a1]:List aw))
def mr(F:Nat)(a1:aW)(a2:(List Int))(k4:(List aw)->Option aG):Nat->Int->(List aw)->Option aG
 |0,n8,l9=>k4 l9
 |tl1+1,n8,l9=>(cq a2 n8).bind fun x11=>(cq a1.Rules x11).bind fun x13=>(ON F x13.When).bind fun y15=>if (l9++([dA ah y15]:List aw)).length*88<=140737488355328 then mr F a1 a2 k4 tl1 (n8+1) (l9++([dA ah y15]:List aw)) else none
def ME(F:Nat)(a1:aW)(a2:(List Int))(a3:Int):Option aG:=
 jn (fun(l5:List aw)=>jn (fun(l20:List aw)=>(JX F l20).bind fun y27=>some y27) (fun k19=>if (decide (a3<((a2.length:Nat):Int)))=true then (cq a2 a3).bind fun x22=>(cq a1.Rules x22).bind fun x24=>if (l5++([dA ah x24.When]:List aw)).length*88<=140737488355328 then k19 (l5++([dA ah x24.When]:List aw)) else none
 else k19 l5)) (fun k4=>if a3<=9223372036854775807 then mr F a1 a2 k4 ((a3:Int).toNat) 0 ([]:List aw) else none)
def MC(F:Nat)(a1:(List B8))(a2:B8):Option Bool:=
 (zb F a1 a2).bind fun y3=>some (y3.2)
def gw(F:Nat)(a2:(List B8))(x10:B8)(k16:(List B8)->Option (B8×Bool)):Nat->Int->(List B8)->Option (B8×Bool)
 |0,_,_=>none
 |n+1,n20,l21=>if (decide (n20<=126))=true then if (decide ((x10.length:Int)<1000))=true then if x10.length+(([n20]:List Int).map fun n=>UInt8.ofNat n.toNat).length<=9223372036854775807 then (MC F a2 (x10++(([n20]:List Int).map fun n=>UInt8.ofNat n.toNat))).bind fun y25=>jn (fun(l28:List B8)=>gw F a2 x10 k16 n (IntKind.wrap .u8 (n20+1)) l28) (fun k27=>if (!y25)=true then if (l21++([(x10++(([n20]:List Int).map fun n=>UInt8.ofNat n.toNat))]:List B8)).length*16<=140737488355328 then k27 (l21++([(x10++(([n20]:List Int).map fun n=>UInt8.ofNat n.toNat))]:List B8)) else none
 else k27 l21) else none
 else k16 l21
 else k16 l21
def ia(F:Nat)(a2:(List B8))(a3:(List B8))(k4:Option (B8×Bool)):Nat->(List B8)->Option (B8×Bool)
 |0,_=>none
 |n+1,l6=>if (decide (((l6.length:Nat):Int)>0))=true then jn (fun(l9:List B8)=>ia F a2 a3 k4 n l9) (fun k8=>(cq l6 0).bind fun x10=>if 1<=l6.length then (MC F a3 x10).bind fun y13=>if (!y13)=true then some (x10,true)
 else jn (fun(l17:List B8)=>k8 l17) (fun k16=>gw F a2 x10 k16 F 32 (l6.drop 1)) else none)
 else k4
def AB(F:Nat)(a1:B8)(a2:(List B8))(a3:(List B8)):Option (B8×Bool):=
 jn (some (([]:B8),false)) (fun k4=>ia F a2 a3 k4 F ([a1]:List B8))
def ie(F:Nat)(l3:List B8)(l4:List B8)(k57:(List B8)->Option (List B8)):List B8->(List B8)->Option (List B8)
  |[],l62=>k57 l62
  |x64::tl3,l62=>(AB F x64 l4 l3).bind fun y66=>jn (fun(l69:List B8)=>ie F l3 l4 k57 tl3 l69) (fun k68=>if (y66.2)=true then if (l62++([(y66.1)]:List B8)).length*16<=140737488355328 then k68 (l62++([(y66.1)]:List B8)) else none
 else k68 l62)
def kI(F:Nat)(a1:(List aw))(n10:Int)(k15:(List B8)->(List B8)->Option (List B8)):Nat->(List B8)->(List B8)->Int->Option (List B8)
 |0,_,_,_=>none
 |n+1,l21,l22,n23=>(cq a1 n10).bind fun x24=>(dM ah x24).bind fun y26=>if (decide (n23<((y26.Texts.length:Nat):Int)))=true then (cq a1 n10).bind fun x29=>(dM ah x29).bind fun y31=>jn (fun(l34:List B8) (l35:List B8)=>kI F a1 n10 k15 n l34 l35 (bh (n23+1))) (fun k33=>if (y31.Kind==2)=true then (cq a1 n10).bind fun x37=>(dM ah x37).bind fun y39=>(cq y39.Texts n23).bind fun x41=>(xe F l21 x41).bind fun y43=>k33 y43 l22
 else (cq a1 n10).bind fun x45=>(dM ah x45).bind fun y47=>(cq y47.Texts n23).bind fun x49=>(xe F l22 x49).bind fun y51=>k33 l21 y51)
 else k15 l21 l22
def ig(F:Nat)(a1:(List aw))(k2:(List B8)->(List B8)->Option (List B8)):Nat->Int->(List B8)->(List B8)->Option (List B8)
 |0,n10,l8,l9=>k2 l8 l9
 |tl1+1,n10,l8,l9=>jn (fun(l13:List B8) (l14:List B8)=>ig F a1 k2 tl1 (n10+1) l13 l14) (fun k12=>jn (fun(l16:List B8) (l17:List B8)=>k12 l16 l17) (fun k15=>kI F a1 n10 k15 F l8 l9 0))
def AD(F:Nat)(a1:(List aw)):Option (List B8):=
 jn (fun(l3:List B8) (l4:List B8)=>if l3.length*16<=140737488355328 then (xe F l4 ([]:B8)).bind fun y55=>jn (fun(l58:List B8)=>some l58) (fun k57=>ie F l3 l4 k57 y55 l3) else none) (fun k2=>ig F a1 k2 ((((a1.length:Nat):Int):Int).toNat) 0 ([]:List B8) ([]:List B8))
def i9(F:Nat)(a1:(List Int))(a2:Int)(k3:(List Int)->Option (List Int)):List Int->Int->(List Int)->Option (List Int)
  |[],n7,l8=>k3 l8
  |x10::tl1,n7,l8=>if (x10==a2)=true then some a1
 else (cq a1 n7).bind fun x13=>if (decide (x13>a2))=true then if (l8++([a2]:List Int)).length*8<=140737488355328 then if 0<=n7/\n7.toNat<=a1.length then if ((l8++([a2]:List Int))++(a1.drop n7.toNat)).length*8<=140737488355328 then some ((l8++([a2]:List Int))++(a1.drop n7.toNat)) else none else none else none
 else (cq a1 n7).bind fun x19=>if (l8++([x19]:List Int)).length*8<=140737488355328 then i9 F a1 a2 k3 tl1 (n7+1) (l8++([x19]:List Int)) else none
def GO(F:Nat)(a1:(List Int))(a2:Int):Option (List Int):=
 jn (fun(l4:List Int)=>if (l4++([a2]:List Int)).length*8<=140737488355328 then some (l4++([a2]:List Int)) else none) (fun k3=>i9 F a1 a2 k3 a1 0 ([]:List Int))
def gx(F:Nat)(l3:List Int)(k24:(List Int)->Option (List Int)):List Int->Int->(List Int)->Option (List Int)
  |[],n28,l29=>k24 l29
  |x33::tl2,n28,l29=>jn (fun(l32:List Int)=>gx F l3 k24 tl2 (n28+1) l32) (fun k31=>if (decide ((bh (x33 - 1))>=(-1000000000000)))=true then if (n28==0)=true then if (l29++([(bh (x33 - 1))]:List Int)).length*8<=140737488355328 then (cq l3 n28).bind fun x38=>if ((l29++([(bh (x33 - 1))]:List Int))++([x38]:List Int)).length*8<=140737488355328 then k31 ((l29++([(bh (x33 - 1))]:List Int))++([x38]:List Int)) else none else none
 else (cq l3 (bh (n28 - 1))).bind fun x41=>jn (fun(l44:List Int)=>(cq l3 n28).bind fun x47=>if (l44++([x47]:List Int)).length*8<=140737488355328 then k31 (l44++([x47]:List Int)) else none) (fun k43=>if (decide (x41<(bh (x33 - 1))))=true then if (l29++([(bh (x33 - 1))]:List Int)).length*8<=140737488355328 then k43 (l29++([(bh (x33 - 1))]:List Int)) else none
 else k43 l29)
 else (cq l3 n28).bind fun x50=>if (l29++([x50]:List Int)).length*8<=140737488355328 then k31 (l29++([x50]:List Int)) else none)
def jb(F:Nat)(a1:(List aw))(k2:(List Int)->Option (List Int)):List aw->Int->(List Int)->Option (List Int)
  |[],n7,l6=>k2 l6
  |x9::tl1,n7,l6=>(dM ah x9).bind fun y11=>jn (fun(l14:List Int)=>jb F a1 k2 tl1 (n7+1) l14) (fun k13=>if (y11.Kind==5)=true then (cq a1 n7).bind fun x16=>(dM ah x16).bind fun y18=>(GO F l6 y18.N).bind fun y20=>k13 y20
 else k13 l6)
def xb(F:Nat)(a1:(List aw)):Option (List Int):=
 jn (fun(l3:List Int)=>if (((l3.length:Nat):Int)==0)=true then some ([0]:List Int)
 else jn (fun(l25:List Int)=>(cq l3 (bh (((l3.length:Nat):Int) - 1))).bind fun x54=>jn (fun(l57:List Int)=>some l57) (fun k56=>if (decide ((bh (x54+1))<=1000000000000))=true then if (l25++([(bh (x54+1))]:List Int)).length*8<=140737488355328 then k56 (l25++([(bh (x54+1))]:List Int)) else none
 else k56 l25)) (fun k24=>gx F l3 k24 l3 0 ([]:List Int))) (fun k2=>jb F a1 k2 a1 0 ([]:List Int))
def jd(F:Nat)(y5:(List B8))(y8:(List Int))(n36:Int)(k41:(List ab)->Option (List ab)):Nat->Int->(List ab)->Option (List ab)
 |0,n45,l46=>k41 l46
 |tl4+1,n45,l46=>(cq y5 n36).bind fun x48=>(cq y8 n45).bind fun x50=>if (l46++([(ab.mk true true x48 x50)]:List ab)).length*32<=140737488355328 then jd F y5 y8 n36 k41 tl4 (n45+1) (l46++([(ab.mk true true x48 x50)]:List ab)) else none
def il(F:Nat)(y5:(List B8))(y8:(List Int))(k32:(List ab)->Option (List ab)):Nat->Int->(List ab)->Option (List ab)
 |0,n36,l37=>k32 l37
 |tl3+1,n36,l37=>jn (fun(l40:List ab)=>il F y5 y8 k32 tl3 (n36+1) l40) (fun k39=>jn (fun(l42:List ab)=>k39 l42) (fun k41=>jd F y5 y8 n36 k41 ((((y8.length:Nat):Int):Int).toNat) 0 l37))
def dg(F:Nat)(k21:(List ab)->Option (List ab)):List Int->(List ab)->Option (List ab)
 |[],l26=>k21 l26
 |x28::tl2,l26=>if (l26++([(ab.mk false true ([]:B8) x28)]:List ab)).length*32<=140737488355328 then dg F k21 tl2 (l26++([(ab.mk false true ([]:B8) x28)]:List ab)) else none
def dh(F:Nat)(k10:(List ab)->Option (List ab)):List B8->(List ab)->Option (List ab)
 |[],l15=>k10 l15
 |x17::tl1,l15=>if (l15++([(ab.mk true false x17 0)]:List ab)).length*32<=140737488355328 then dh F k10 tl1 (l15++([(ab.mk true false x17 0)]:List ab)) else none
def zc(F:Nat)(a1:(List aw)):Option (List ab):=
 (LC F a1).bind fun y2=>if (y2.1)=true then (AD F a1).bind fun y5=>if (y2.2.1)=true then (xb F a1).bind fun y8=>jn (fun(l11:List ab)=>jn (fun(l22:List ab)=>jn (fun(l33:List ab)=>some l33) (fun k32=>il F y5 y8 k32 ((((y5.length:Nat):Int):Int).toNat) 0 l22)) (fun k21=>dg F k21 y8 l11)) (fun k10=>dh F k10 y5 ([(ab.mk false false ([]:B8) 0)]:List ab))
 else jn (fun(l56:List Int)=>jn (fun(l61:List ab)=>jn (fun(l72:List ab)=>some l72) (fun k71=>dg F k71 l56 l61)) (fun k60=>dh F k60 y5 ([(ab.mk false false ([]:B8) 0)]:List ab))) (fun k55=>if (y2.2.2)=true then (xb F a1).bind fun y58=>k55 y58
 else k55 ([]:List Int))
 else jn (fun(l83:List B8)=>if (y2.2.1)=true then (xb F a1).bind fun y88=>jn (fun(l91:List ab)=>jn (fun(l102:List ab)=>some l102) (fun k101=>dg F k101 y88 l91)) (fun k90=>dh F k90 l83 ([(ab.mk false false ([]:B8) 0)]:List ab))
 else jn (fun(l113:List Int)=>jn (fun(l118:List ab)=>jn (fun(l129:List ab)=>some l129) (fun k128=>dg F k128 l113 l118)) (fun k117=>dh F k117 l83 ([(ab.mk false false ([]:B8) 0)]:List ab))) (fun k112=>if (y2.2.2)=true then (xb F a1).bind fun y115=>k112 y115
 else k112 ([]:List Int))) (fun k82=>if (y2.2.2)=true then (AD F a1).bind fun y85=>k82 y85
 else k82 ([]:List B8))
def mo(F:Nat)(a1:aG)(k27:(List (List ab))->Option ((List B8)×(List (List ab))×(List Bool)×(List ab))):List B8->(List (List ab))->Option ((List B8)×(List (List ab))×(List Bool)×(List ab))
 |[],l32=>k27 l32
 |x34::tl1,l32=>(MB F a1 x34).bind fun y36=>(zc F y36).bind fun y38=>if (l32++([y38]:List (List ab))).length*24<=140737488355328 then mo F a1 k27 tl1 (l32++([y38]:List (List ab))) else none
def Og(F:Nat)(a1:aG):Option ((List B8)×(List (List ab))×(List Bool)×(List ab)):=
 (GG F a1 ([]:List B8)).bind fun y25=>jn (fun(l28:List (List ab))=>if 0<=((y25.length:Nat):Int)/\((1:Nat):Int)*((y25.length:Nat):Int)<=140737488355328/\((y25.length:Nat):Int)<=140737488355328 then if 0<=((y25.length:Nat):Int)/\((32:Nat):Int)*((y25.length:Nat):Int)<=140737488355328/\((y25.length:Nat):Int)<=140737488355328 then some (y25,l28,(List.replicate (((y25.length:Nat):Int)).toNat (false:Bool)),(List.replicate (((y25.length:Nat):Int)).toNat ((ab.mk false false ([]:B8) 0):ab))) else none else none) (fun k27=>mo F a1 k27 y25 ([]:List (List ab)))
def CV(F:Nat)(a1:Bool):Option Int:=
 if a1=true then some 1
 else some 0
def GS(F:Nat)(a1:Int)(a2:Int)(a3:Int):Option Bool:=
 if (a1==1)=true then some (decide (a2<a3))
 else if (a1==2)=true then some (decide (a2<=a3))
 else if (a1==3)=true then some (a2==a3)
 else if (a1==4)=true then some (decide (a2>=a3))
 else some (decide (a2>a3))
def IY(F:Nat)(a1:B8)(a2:B8):Option Bool:=
 if (decide ((a1.length:Int)>=(a2.length:Int)))=true then if 0<=(a2.length:Int)/\(a2.length:Int).toNat<=a1.length then some ((a1.take (a2.length:Int).toNat)==a2) else none
 else some false
def je(F:Nat)(a1:aG)(a2:ab)(k9:Option Bool):Nat->Int->Option Bool
 |0,_=>none
 |n+1,n11=>if (decide (n11<((a1.Texts.length:Nat):Int)))=true then if a2.isText=true then jn (fun(b15:Bool)=>je F a1 a2 k9 n (bh (n11+1))) (fun k14=>(cq a1.Texts n11).bind fun x16=>if (x16==a2.text)=true then some true
 else if (a1.Kind==3)=true then (cq a1.Texts n11).bind fun x20=>(IY F a2.text x20).bind fun y22=>if y22=true then some true
 else k14 y22
 else k14 false)
 else k9
 else k9
def CZ(F:Nat)(a1:aG)(a2:ab):Option Bool:=
 if (a1.Kind==4)=true then if a2.isText=true then some true
 else some (a2.isNumber)
 else if (a1.Kind==5)=true then if a2.isNumber=true then (GS F a1.Op a2.number a1.N).bind fun y7=>some y7
 else some false
 else jn (some false) (fun k9=>je F a1 a2 k9 F 0)
def eG(R126:aD->aG->Option Int)(F:Nat)(a1:aD)(a2:aG)(y17:Int)(k19:Int->Option Int):Nat->Int->Int->Option Int
  |0,n24,n23=>k19 n23
  |tl1+1,n24,n23=>(cq a2.Kids n24).bind fun x26=>(dM ah x26).bind fun y28=>(R126 a1 y28).bind fun y30=>if (y30==y17)=true then some y17
 else jn (fun(n34:Int)=>eG R126 F a1 a2 y17 k19 tl1 (n24+1) n34) (fun k33=>if (y30==2)=true then k33 2
 else k33 n23)
def tF(R126:aD->aG->Option Int)(F:Nat)(a1:aD)(a2:aG):Option Int:=
 jn ((zb F a1.names a2.Name).bind fun y37=>(cq a1.settled (y37.1)).bind fun x39=>if (!x39)=true then some 2
 else (cq a1.is (y37.1)).bind fun x42=>(CZ F a2 x42).bind fun y44=>(CV F y44).bind fun y46=>some y46) (fun k3=>if (a2.Kind==1)=true then some 1
 else if (a2.Kind==6)=true then (cq a2.Kids 0).bind fun x6=>(dM ah x6).bind fun y8=>(R126 a1 y8).bind fun y10=>if (y10==2)=true then some 2
 else some (bh (1 - y10))
 else jn (fun(b14:Bool)=>if b14=true then (CV F (a2.Kind==8)).bind fun y17=>jn (fun(n20:Int)=>some n20) (fun k19=>if ((a2.Kids.length:Nat):Int)<=9223372036854775807 then eG R126 F a1 a2 y17 k19 ((((a2.Kids.length:Nat):Int):Int).toNat) 0 (bh (1 - y17)) else none)
 else k3) (fun k13=>if (a2.Kind==7)=true then k13 (a2.Kind==7)
 else k13 (a2.Kind==8)))
def uf:Nat->aD->aG->Option Int
 |0,_,_=>none
 |F+1,a1,a2=>tF (uf F) F a1 a2
def jc(F:Nat)(a1:aD)(k2:Int->Int->Option Bool):Nat->Int->Int->Int->Option Bool
  |0,n10,n8,n9=>k2 n8 n9
  |tl1+1,n10,n8,n9=>jn (fun(n13:Int) (n14:Int)=>jc F a1 k2 tl1 (n10+1) n13 n14) (fun k12=>(cq a1.settled n10).bind fun x15=>if x15=true then (cq a1.is n10).bind fun x18=>jn (fun(n21:Int)=>(cq a1.settled n10).bind fun x23=>if x23=true then (cq a1.is n10).bind fun x26=>jn (fun(n29:Int)=>k12 n21 n29) (fun k28=>if x26.isNumber=true then k28 (bh (n9+1))
 else k28 n9)
 else k12 n21 n9) (fun k20=>if x18.isText=true then k20 (bh (n8+1))
 else k20 n8)
 else (cq a1.settled n10).bind fun x31=>if x31=true then (cq a1.is n10).bind fun x34=>jn (fun(n37:Int)=>k12 n8 n37) (fun k36=>if x34.isNumber=true then k36 (bh (n9+1))
 else k36 n9)
 else k12 n8 n9)
def GW(F:Nat)(a1:aD):Option Bool:=
 jn (fun(n3:Int) (n4:Int)=>if (decide (n3<=30))=true then some (decide (n4<=30))
 else some false) (fun k2=>if ((a1.names.length:Nat):Int)<=9223372036854775807 then jc F a1 k2 ((((a1.names.length:Nat):Int):Int).toNat) 0 0 0 else none)
def gP(R85:Int->Int->B8->(List B8)->Int->Int->(List aw)->(List B8)->(List (List ab))->(List Bool)->(List ab)->Option (Bool×(List Bool)×(List ab)))(F:Nat)(a2:Int)(a3:B8)(a4:(List B8))(a5:Int)(a6:Int)(a7:(List aw))(a8:(List B8))(a9:List (List ab))(n65:Int)(k73:(List Bool)->(List ab)->Option (Bool×(List Bool)×(List ab))):Nat->Int->(List Bool)->(List ab)->Option (Bool×(List Bool)×(List ab))
 |0,_,_,_=>none
 |n+1,n79,l80,l81=>(cq a9 n65).bind fun x82=>if (decide (n79<((x82.length:Nat):Int)))=true then (cq a9 n65).bind fun x85=>(cq x85 n79).bind fun x87=>(cq l81 n65).bind fun x89=>(R85 (bh (n65+1)) a2 a3 a4 a5 a6 a7 a8 a9 l80 (l81.set n65.toNat x87)).bind fun y91=>if (y91.2.2).length=l81.length then if (y91.1)=true then some (true,(y91.2.1),(y91.2.2))
 else gP R85 F a2 a3 a4 a5 a6 a7 a8 a9 n65 k73 n (bh (n79+1)) (y91.2.1) (y91.2.2) else none
 else k73 l80 l81
def oc(F:Nat)(a10:List Bool)(k64:Int->Option (Bool×(List Bool)×(List ab))):Nat->Int->Option (Bool×(List Bool)×(List ab))
 |0,_=>none
 |n+1,n67=>(cq a10 n67).bind fun x68=>if x68=true then oc F a10 k64 n (bh (n67+1))
 else k64 n67
def nC(R85:Int->Int->B8->(List B8)->Int->Int->(List aw)->(List B8)->(List (List ab))->(List Bool)->(List ab)->Option (Bool×(List Bool)×(List ab)))(F:Nat)(a1:Int)(a2:Int)(a3:B8)(a4:(List B8))(a5:Int)(a6:Int)(a7:(List aw))(a8:(List B8))(a9:List (List ab))(a10:List Bool)(a11:List ab):Option (Bool×(List Bool)×(List ab)):=
 (uf F (aD.mk (aG.mk a2 a3 a4 a5 a6 a7) a8 a9 a10 a11) (aG.mk a2 a3 a4 a5 a6 a7)).bind fun y57=>if (y57==0)=true then some (false,a10,a11)
 else (GW F (aD.mk (aG.mk a2 a3 a4 a5 a6 a7) a8 a9 a10 a11)).bind fun y60=>if (!y60)=true then some (false,a10,a11)
 else if (y57==1)=true then some (true,a10,a11)
 else jn (fun(n65:Int)=>(cq a10 n65).bind fun x71=>jn (fun(l74:List Bool) (l75:List ab)=>(cq l74 n65).bind fun x95=>(cq l75 n65).bind fun x97=>some (false,(l74.set n65.toNat false),(l75.set n65.toNat (ab.mk false false ([]:B8) 0)))) (fun k73=>gP R85 F a2 a3 a4 a5 a6 a7 a8 a9 n65 k73 F 0 (a10.set n65.toNat true) a11)) (fun k64=>oc F a10 k64 F a1)
def Ax:Nat->Int->Int->B8->(List B8)->Int->Int->(List aw)->(List B8)->(List (List ab))->(List Bool)->(List ab)->Option (Bool×(List Bool)×(List ab))
 |0,_,_,_,_,_,_,_,_,_,_,_=>none
 |F+1,a1,a2,a3,a4,a5,a6,a7,a8,a9,a10,a11=>nC (Ax F) F a1 a2 a3 a4 a5 a6 a7 a8 a9 a10 a11
def mf(F:Nat)(a1:aD)(k3:(List cR)->(List bO)->Option iI):Nat->Int->(List cR)->(List bO)->Option iI
  |0,n9,l10,l11=>k3 l10 l11
  |tl1+1,n9,l10,l11=>(cq a1.is n9).bind fun x13=>jn (fun(l16:List cR)=>(cq a1.is n9).bind fun x23=>jn (fun(l26:List bO)=>mf F a1 k3 tl1 (n9+1) l16 l26) (fun k25=>if x23.isNumber=true then (cq a1.names n9).bind fun x28=>(cq a1.is n9).bind fun x30=>if (l11++([(bO.mk x28 x30.number)]:List bO)).length*24<=140737488355328 then k25 (l11++([(bO.mk x28 x30.number)]:List bO)) else none
 else k25 l11)) (fun k15=>if x13.isText=true then (cq a1.names n9).bind fun x18=>(cq a1.is n9).bind fun x20=>if (l10++([(cR.mk x18 x20.text)]:List cR)).length*32<=140737488355328 then k15 (l10++([(cR.mk x18 x20.text)]:List cR)) else none
 else k15 l10)
def Oa(F:Nat)(a1:aD)(a2:B8):Option iI:=
 jn (fun(l4:List cR) (l5:List bO)=>some (iI.mk a2 ([]:B8) l4 l5)) (fun k3=>if ((a1.names.length:Nat):Int)<=9223372036854775807 then mf F a1 k3 ((((a1.names.length:Nat):Int):Int).toNat) 0 ([]:List cR) ([]:List bO) else none)
def MG(F:Nat)(a1:aG)(a2:B8):Option (iI×Bool):=
 (Og F a1).bind fun y3=>(Ax F 0 a1.Kind a1.Name a1.Texts a1.Op a1.N a1.Kids (y3.1) (y3.2.1) (y3.2.2.1) (y3.2.2.2)).bind fun y5=>if (!(y5.1))=true then some ((iI.mk ([]:B8) ([]:B8) ([]:List cR) ([]:List bO)),false)
 else (Oa F (aD.mk a1 (y3.1) (y3.2.1) (y5.2.1) (y5.2.2)) a2).bind fun y8=>some (y8,true)
def mF(F:Nat)(n39:Int)(y46:(List Int))(k48:Int->Option ((List Int)×Int)):Nat->Int->Option ((List Int)×Int)
 |0,_=>none
 |n+1,n51=>(cq y46 n51).bind fun x52=>if (x52 != n39)=true then mF F n39 y46 k48 n (bh (n51+1))
 else k48 n51
def jt(F:Nat)(a1:aW)(l6:List B8)(k35:(List Int)->Option ((List Int)×Int)):List B8->Int->(List Int)->Option ((List Int)×Int)
  |[],n39,l40=>k35 l40
  |x44::tl2,n39,l40=>jn (fun(l43:List Int)=>jt F a1 l6 k35 tl2 (n39+1) l43) (fun k42=>(MF F a1 x44).bind fun y46=>jn (fun(n49:Int)=>(ME F a1 y46 n49).bind fun y55=>(cq l6 n39).bind fun x57=>(MG F y55 x57).bind fun y59=>jn (fun(l62:List Int)=>k42 l62) (fun k61=>if (!(y59.2))=true then if (l40++([n39]:List Int)).length*8<=140737488355328 then k61 (l40++([n39]:List Int)) else none
 else k61 l40)) (fun k48=>mF F n39 y46 k48 F 0))
def ju(F:Nat)(a1:aW)(k5:(List B8)->Option ((List Int)×Int)):Nat->Int->(List B8)->Option ((List Int)×Int)
  |0,n9,l10=>k5 l10
  |tl1+1,n9,l10=>jn (fun(l13:List B8)=>ju F a1 k5 tl1 (n9+1) l13) (fun k12=>(cq a1.Rules n9).bind fun x14=>(MF F a1 x14.About).bind fun y16=>(cq y16 0).bind fun x18=>if (x18==n9)=true then (LS F a1 y16).bind fun y21=>(JX F y21).bind fun y23=>(L2 F y23).bind fun y25=>if y25=true then some (([]:List Int),3)
 else (cq a1.Rules n9).bind fun x28=>if (l10++([x28.About]:List B8)).length*16<=140737488355328 then k12 (l10++([x28.About]:List B8)) else none
 else (cq a1.Rules n9).bind fun x31=>if (l10++([x31.About]:List B8)).length*16<=140737488355328 then k12 (l10++([x31.About]:List B8)) else none)
def Mk(F:Nat)(a1:aW):Option ((List Int)×Int):=
 (Oh F a1).bind fun y2=>if (y2 != 0)=true then some (([]:List Int),y2)
 else jn (fun(l6:List B8)=>jn (fun(l36:List Int)=>some (l36,0)) (fun k35=>jt F a1 l6 k35 l6 0 ([]:List Int))) (fun k5=>if ((a1.Rules.length:Nat):Int)<=9223372036854775807 then ju F a1 k5 ((((a1.Rules.length:Nat):Int):Int).toNat) 0 ([]:List B8) else none)
def oi(F:Nat)(a2:(List Int))(k4:Option Bool):List Int->Int->Option Bool
  |[],n6=>k4
  |x8::tl1,n6=>(cq a2 n6).bind fun x10=>if (x8 != x10)=true then some false
 else oi F a2 k4 tl1 (n6+1)
def Ot(F:Nat)(a1:(List Int))(a2:(List Int)):Option Bool:=
 if (((a1.length:Nat):Int) != ((a2.length:Nat):Int))=true then some false
 else jn (some true) (fun k4=>oi F a2 k4 a1 0)
def MK(F:Nat):Option Bool:=some true
def M6(F:Nat)(a1:aW):Option Bool:=
 (JZ F a1).bind fun y2=>(Mk F a1).bind fun y4=>(Ot F (y2.1) (y4.1)).bind fun y6=>if y6=true then if ((y2.2)==(y4.2))=true then (MK F).bind fun y10=>some y10
 else some false
 else some false
end
end Go.Proofs.YtelmfadihfcgnaaGreatDoor
