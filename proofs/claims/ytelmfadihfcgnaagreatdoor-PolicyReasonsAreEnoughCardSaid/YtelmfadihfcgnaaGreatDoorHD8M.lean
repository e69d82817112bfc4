/- Part of the proof. -/
import Derived.Test.YtelmfadihfcgnaaGreatDoorHD8T
set_option linter.unusedSimpArgs false
set_option linter.unusedVariables false
namespace Go.Proofs.YtelmfadihfcgnaaGreatDoor
open Go Go.Pv
set_option maxRecDepth 100000
noncomputable section
def mh(R86:aV->Int->Option (Int×Int))(F:Nat)(a2:Int)(k4:Int->Int->Option (Int×Int)):List aU->Int->Int->Option (Int×Int)
 |[],n10,n11=>k4 n10 n11
 |x14::tl1,n10,n11=>(er ar x14).bind fun y16=>(R86 y16 (bE (a2+1))).bind fun y18=>mh R86 F a2 k4 tl1 (if 61<(bE (n10+(y18.1))) then 61 else (bE (n10+(y18.1)))) (if (y18.2)>n11 then (y18.2) else n11)
def zm(R86:aV->Int->Option (Int×Int))(F:Nat)(a1:aV)(a2:Int):Option (Int×Int):=
 if (decide (a2>12))=true then some (1,a2)
 else jn (fun(n5:Int) (n6:Int)=>some (n5,n6)) (fun k4=>mh R86 F a2 k4 a1.Kids 1 a2)
def Ke:Nat->aV->Int->Option (Int×Int)
 |0,_,_=>none
 |F+1,a1,a2=>zm (Ke F) F a1 a2
def Dv(F:Nat):Option (Nat->bL):=
 some (tg (bL.mk false false false 0) [(bL.mk false false false 0),(bL.mk false false false 0),(bL.mk true true false 0),(bL.mk true true false 0),(bL.mk true false false 0),(bL.mk true false true 0),(bL.mk false false false 1),(bL.mk false false false (-1)),(bL.mk false false false (-1))])
def Hn(F:Nat)(a1:aV):Option Bool:=
 (Dv F).bind fun y2=>if 0<=a1.Kind/\a1.Kind.toNat<9 then if (!(y2 a1.Kind.toNat).name)=true then if (!(a1.Name==([]:B8)))=true then some false
 else if (!(y2 a1.Kind.toNat).texts)=true then if (decide (((a1.Texts.length:Nat):Int)>0))=true then some false
 else if (!(y2 a1.Kind.toNat).number)=true then if (a1.Op != 0)=true then some false
 else if (a1.N != 0)=true then some false
 else if (decide ((y2 a1.Kind.toNat).kids<0))=true then some (decide (((a1.Kids.length:Nat):Int)>=2))
 else some (((a1.Kids.length:Nat):Int)==(y2 a1.Kind.toNat).kids)
 else if (decide ((y2 a1.Kind.toNat).kids<0))=true then some (decide (((a1.Kids.length:Nat):Int)>=2))
 else some (((a1.Kids.length:Nat):Int)==(y2 a1.Kind.toNat).kids)
 else if (!(y2 a1.Kind.toNat).number)=true then if (a1.Op != 0)=true then some false
 else if (a1.N != 0)=true then some false
 else if (decide ((y2 a1.Kind.toNat).kids<0))=true then some (decide (((a1.Kids.length:Nat):Int)>=2))
 else some (((a1.Kids.length:Nat):Int)==(y2 a1.Kind.toNat).kids)
 else if (decide ((y2 a1.Kind.toNat).kids<0))=true then some (decide (((a1.Kids.length:Nat):Int)>=2))
 else some (((a1.Kids.length:Nat):Int)==(y2 a1.Kind.toNat).kids)
 else if (!(y2 a1.Kind.toNat).texts)=true then if (decide (((a1.Texts.length:Nat):Int)>0))=true then some false
 else if (!(y2 a1.Kind.toNat).number)=true then if (a1.Op != 0)=true then some false
 else if (a1.N != 0)=true then some false
 else if (decide ((y2 a1.Kind.toNat).kids<0))=true then some (decide (((a1.Kids.length:Nat):Int)>=2))
 else some (((a1.Kids.length:Nat):Int)==(y2 a1.Kind.toNat).kids)
 else if (decide ((y2 a1.Kind.toNat).kids<0))=true then some (decide (((a1.Kids.length:Nat):Int)>=2))
 else some (((a1.Kids.length:Nat):Int)==(y2 a1.Kind.toNat).kids)
 else if (!(y2 a1.Kind.toNat).number)=true then if (a1.Op != 0)=true then some false
 else if (a1.N != 0)=true then some false
 else if (decide ((y2 a1.Kind.toNat).kids<0))=true then some (decide (((a1.Kids.length:Nat):Int)>=2))
 else some (((a1.Kids.length:Nat):Int)==(y2 a1.Kind.toNat).kids)
 else if (decide ((y2 a1.Kind.toNat).kids<0))=true then some (decide (((a1.Kids.length:Nat):Int)>=2))
 else some (((a1.Kids.length:Nat):Int)==(y2 a1.Kind.toNat).kids) else none
def Oi(F:Nat)(a1:B8):Option Bool:=
 jn (fun(b3:Bool)=>if b3=true then some true
 else some false) (fun k2=>if (a1==([114,117,108,101]:B8))=true then k2 (a1==([114,117,108,101]:B8))
 else if (a1==([97,98,111,117,116]:B8))=true then k2 (a1==([97,98,111,117,116]:B8))
 else if (a1==([119,104,101,110]:B8))=true then k2 (a1==([119,104,101,110]:B8))
 else if (a1==([119,97,105,118,101]:B8))=true then k2 (a1==([119,97,105,118,101]:B8))
 else if (a1==([102,111,114]:B8))=true then k2 (a1==([102,111,114]:B8))
 else if (a1==([102,114,111,109]:B8))=true then k2 (a1==([102,114,111,109]:B8))
 else if (a1==([116,111]:B8))=true then k2 (a1==([116,111]:B8))
 else if (a1==([98,121]:B8))=true then k2 (a1==([98,121]:B8))
 else if (a1==([97,115]:B8))=true then k2 (a1==([97,115]:B8))
 else if (a1==([112,97,115,115]:B8))=true then k2 (a1==([112,97,115,115]:B8))
 else if (a1==([110,111,116,101]:B8))=true then k2 (a1==([110,111,116,101]:B8))
 else if (a1==([119,97,114,110]:B8))=true then k2 (a1==([119,97,114,110]:B8))
 else if (a1==([100,101,110,121]:B8))=true then k2 (a1==([100,101,110,121]:B8))
 else if (a1==([111,114]:B8))=true then k2 (a1==([111,114]:B8))
 else if (a1==([97,110,100]:B8))=true then k2 (a1==([97,110,100]:B8))
 else if (a1==([116,114,117,101]:B8))=true then k2 (a1==([116,114,117,101]:B8))
 else if (a1==([105,115]:B8))=true then k2 (a1==([105,115]:B8))
 else if (a1==([98,101,103,105,110,115]:B8))=true then k2 (a1==([98,101,103,105,110,115]:B8))
 else if (a1==([104,97,115]:B8))=true then k2 (a1==([104,97,115]:B8))
 else k2 (a1==([110,111,116]:B8)))
def kJ(F:Nat)(a1:B8)(k2:Option Bool):Nat->Int->Option Bool
  |0,n4=>k2
  |tl1+1,n4=>jn (kJ F a1 k2 tl1 (n4+1)) (fun k6=>(ct a1 n4).bind fun c7=>if (decide ((c7.toNat:Int)>=97))=true then if (decide ((c7.toNat:Int)<=122))=true then k6
 else if (decide (n4>0))=true then if (decide ((c7.toNat:Int)>=48))=true then if (decide ((c7.toNat:Int)<=57))=true then k6
 else if (!((c7.toNat:Int)==45))=true then some false
 else k6
 else if (!((c7.toNat:Int)==45))=true then some false
 else k6
 else some false
 else if (decide (n4>0))=true then if (decide ((c7.toNat:Int)>=48))=true then if (decide ((c7.toNat:Int)<=57))=true then k6
 else if (!((c7.toNat:Int)==45))=true then some false
 else k6
 else if (!((c7.toNat:Int)==45))=true then some false
 else k6
 else some false)
def Kg(F:Nat)(a1:B8):Option Bool:=
 jn (if (!(a1==([]:B8)))=true then if (decide ((a1.length:Int)<=40))=true then (Oi F a1).bind fun y24=>some (!y24)
 else some false
 else some false) (fun k2=>if (a1.length:Int)<=9223372036854775807 then kJ F a1 k2 (((a1.length:Int):Int).toNat) 0 else none)
def kQ(F:Nat)(a1:B8)(k2:Option Bool):Nat->Int->Option Bool
  |0,n4=>k2
  |tl1+1,n4=>(ct a1 n4).bind fun c6=>if (decide ((c6.toNat:Int)<32))=true then some false
 else (ct a1 n4).bind fun c9=>if (decide ((c9.toNat:Int)>126))=true then some false
 else kQ F a1 k2 tl1 (n4+1)
def Ba(F:Nat)(a1:B8):Option Bool:=
 jn (some (decide ((a1.length:Int)<=1000))) (fun k2=>if (a1.length:Int)<=9223372036854775807 then kQ F a1 k2 (((a1.length:Int):Int).toNat) 0 else none)
def kN(F:Nat)(a1:(List B8))(k4:Option Int):List B8->Int->Option Int
  |[],n6=>k4
  |x8::tl1,n6=>(Ba F x8).bind fun y10=>jn (kN F a1 k4 tl1 (n6+1)) (fun k12=>if (!y10)=true then some 2
 else if (decide (n6>0))=true then (ct a1 (bE (n6 - 1))).bind fun x15=>if (Op.bytesLess x8 x15||x8==x15)=true then some 10
 else k12
 else k12)
def Hl(F:Nat)(a1:(List B8)):Option Int:=
 if (((a1.length:Nat):Int)==0)=true then some 13
 else if (decide (((a1.length:Nat):Int)>50))=true then some 3
 else jn (some 0) (fun k4=>kN F a1 k4 a1 0)
def tO(F:Nat)(a1:Int):Option Bool:=
 if (decide (a1>=(-1000000000000)))=true then some (decide (a1<=1000000000000))
 else some false
def jF(R87:aV->Option Int)(F:Nat)(k27:Option Int):List aU->Option Int
  |[]=>k27
  |x31::tl1=>(er ar x31).bind fun y33=>(R87 y33).bind fun y35=>if (y35 != 0)=true then some y35
 else jF R87 F k27 tl1
def qu(R87:aV->Option Int)(F:Nat)(a1:aV):Option Int:=
 if (decide (a1.Kind<1))=true then some 7
 else if (decide (a1.Kind>8))=true then some 7
 else (Dv F).bind fun y4=>if 0<=a1.Kind/\a1.Kind.toNat<9 then (Hn F a1).bind fun y7=>jn (jn (jn (jn (some 0) (fun k27=>jF R87 F k27 a1.Kids)) (fun k20=>if (y4 a1.Kind.toNat).number=true then if (decide (a1.Op<1))=true then some 7
 else if (decide (a1.Op>5))=true then some 7
 else (tO F a1.N).bind fun y24=>if (!y24)=true then some 9
 else k20
 else k20)) (fun k15=>if (y4 a1.Kind.toNat).texts=true then (Hl F a1.Texts).bind fun y17=>if (y17 != 0)=true then some y17
 else k15
 else k15)) (fun k9=>if (!y7)=true then some 2
 else if (y4 a1.Kind.toNat).name=true then (Kg F a1.Name).bind fun y12=>if (!y12)=true then some 8
 else k9
 else k9) else none
def Kd:Nat->aV->Option Int
 |0,_=>none
 |F+1,a1=>qu (Kd F) F a1
def MO(F:Nat)(a1:aV):Option Int:=
 (Ke F a1 1).bind fun y2=>if (decide ((y2.1)>60))=true then some 3
 else if (decide ((y2.2)>12))=true then some 3
 else (Kd F a1).bind fun y6=>some y6
def mq(F:Nat)(a1:aZ)(k28:Option Int):List aT->Int->Option Int
  |[],n30=>k28
  |x32::tl2,n30=>(Kg F x32.Name).bind fun y34=>jn (mq F a1 k28 tl2 (n30+1)) (fun k36=>if (!y34)=true then some 8
 else (tO F x32.N).bind fun y38=>if (!y38)=true then some 9
 else if (decide (n30>0))=true then (ct a1.Numbers (bE (n30 - 1))).bind fun x42=>if (Op.bytesLess x32.Name x42.Name||x32.Name==x42.Name)=true then some 10
 else k36
 else k36)
def mr(F:Nat)(a1:aZ)(k9:Option Int):List bC->Int->Option Int
  |[],n11=>k9
  |x13::tl1,n11=>(Kg F x13.Name).bind fun y15=>jn (mr F a1 k9 tl1 (n11+1)) (fun k17=>if (!y15)=true then some 8
 else (Ba F x13.Value).bind fun y19=>if (!y19)=true then some 2
 else if (decide (n11>0))=true then (ct a1.Texts (bE (n11 - 1))).bind fun x23=>if (Op.bytesLess x13.Name x23.Name||x13.Name==x23.Name)=true then some 10
 else k17
 else k17)
def MN(F:Nat)(a1:aZ):Option Int:=
 (Kg F a1.Kind).bind fun y2=>if (!y2)=true then some 8
 else (Ba F a1.Subject).bind fun y5=>if (!y5)=true then some 2
 else if (decide (((a1.Texts.length:Nat):Int)>30))=true then some 3
 else jn (if (decide (((a1.Numbers.length:Nat):Int)>30))=true then some 3
 else jn (some 0) (fun k28=>mq F a1 k28 a1.Numbers 0)) (fun k9=>mr F a1 k9 a1.Texts 0)
def ms(R32:aV->Option KV)(F:Nat)(k2:(List KV)->Option KV):List aU->(List KV)->Option KV
 |[],l7=>k2 l7
 |x9::tl1,l7=>(er ar x9).bind fun y11=>(R32 y11).bind fun y13=>if (l7++([y13]:List KV)).length*16<=140737488355328 then ms R32 F k2 tl1 (l7++([y13]:List KV)) else none
def zq(R32:aV->Option KV)(F:Nat)(a1:aV):Option KV:=
 jn (fun(l3:List KV)=>if (a1.Kind==2)=true then some (tP 147 bR (cT.mk a1.Name a1.Texts))
 else if (a1.Kind==3)=true then some (tP 148 bz (cq.mk a1.Name a1.Texts))
 else if (a1.Kind==4)=true then some (tP 150 bS (cN.mk a1.Name))
 else if (a1.Kind==5)=true then some (tP 152 bx (cp.mk a1.Name a1.Op a1.N))
 else if (a1.Kind==6)=true then (ct l3 0).bind fun x22=>some (tP 154 b8 (cM.mk x22))
 else if (a1.Kind==7)=true then some (tP 156 bU (cP.mk l3))
 else if (a1.Kind==8)=true then some (tP 157 bT (cO.mk l3))
 else some (tP 159 ce cG.mk)) (fun k2=>ms R32 F k2 a1.Kids ([]:List KV))
def Ja:Nat->aV->Option KV
 |0,_=>none
 |F+1,a1=>zq (Ja F) F a1
def G5(F:Nat)(a1:B8)(a2:List (B8×(Option ae))):Option (List (B8×(Option ae))×ae):=match aG a2 a1 with
 |none=>some (bM a2 a1 (some (ae.mk [] [] [] false false false 2)),(ae.mk [] [] [] false false false 2))
 |some none=>none
 |some (some s)=>some (a2,s)
def gR(R33:KV->(List (B8×(Option ae)))->Option (List (B8×(Option ae))))(F:Nat)(k93:(List (B8×(Option ae)))->Option (List (B8×(Option ae)))):List KV->(List (B8×(Option ae)))->Option (List (B8×(Option ae)))
 |[],m98=>k93 m98
 |x100::tl1,m98=>(R33 x100 m98).bind fun y102=>gR R33 F k93 tl1 y102
def lg(R33:KV->(List (B8×(Option ae)))->Option (List (B8×(Option ae))))(F:Nat)(a1:KV)(a2:List (B8×(Option ae))):Option (List (B8×(Option ae))):=
 if Nat.beq a1.t 147=true then (gJ bR 147 a1).bind fun y63=>(G5 F y63.name a2).bind fun y65=>if ((y65.2).is++y63.texts).length*16<=140737488355328 then some (bM (y65.1) y63.name (some (ae.mk ((y65.2).is++y63.texts) (y65.2).begins (y65.2).numbers true (y65.2).asNo (y65.2).has (bE ((y65.2).weight+((y63.texts.length:Nat):Int)))))) else none
 else if Nat.beq a1.t 148=true then (gJ bz 148 a1).bind fun y69=>(G5 F y69.name a2).bind fun y71=>if ((y71.2).begins++y69.texts).length*16<=140737488355328 then some (bM (y71.1) y69.name (some (ae.mk (y71.2).is ((y71.2).begins++y69.texts) (y71.2).numbers true (y71.2).asNo (y71.2).has (bE ((y71.2).weight+(bE (2*((y69.texts.length:Nat):Int)))))))) else none
 else if Nat.beq a1.t 150=true then (gJ bS 150 a1).bind fun y75=>(G5 F y75.name a2).bind fun y77=>some (bM (y77.1) y75.name (some (ae.mk (y77.2).is (y77.2).begins (y77.2).numbers (y77.2).asText (y77.2).asNo true (y77.2).weight)))
 else if Nat.beq a1.t 152=true then (gJ bx 152 a1).bind fun y80=>(G5 F y80.name a2).bind fun y82=>if ((y82.2).numbers++([y80.n]:List Int)).length*8<=140737488355328 then some (bM (y82.1) y80.name (some (ae.mk (y82.2).is (y82.2).begins ((y82.2).numbers++([y80.n]:List Int)) (y82.2).asText true (y82.2).has (bE ((y82.2).weight+2))))) else none
 else if Nat.beq a1.t 154=true then (gJ b8 154 a1).bind fun y86=>(R33 y86.kid a2).bind fun y88=>some y88
 else if Nat.beq a1.t 156=true then (gJ bU 156 a1).bind fun y91=>jn (fun(m94:List (B8×(Option ae)))=>some m94) (fun k93=>gR R33 F k93 y91.kids a2)
 else if Nat.beq a1.t 157=true then (gJ bT 157 a1).bind fun y106=>jn (fun(m109:List (B8×(Option ae)))=>some m109) (fun k108=>gR R33 F k108 y106.kids a2)
 else some a2
def Hb:Nat->KV->(List (B8×(Option ae)))->Option (List (B8×(Option ae)))
 |0,_,_=>none
 |F+1,a1,a2=>lg (Hb F) F a1 a2
def fO(F:Nat):List (B8×(Option ae))->Int->Option Bool
  |[],n4=>some true
  |e6::l7,n4=>if (1<=n4/\n4<=200000)/\((e6::l7).all fun p=>match p.2 with|some s=>decide (1<=s.weight/\s.weight<=1000000000000)|none=>false)=true then (e6.2).bind fun x9=>if x9.has=true then if (decide ((bE (n4*(bE (x9.weight+1))))>200000))=true then some false
 else fO F l7 (bE (n4*(bE (x9.weight+1))))
 else if x9.asText=true then jn (fun(n15:Int)=>if (decide ((bE (n4*n15))>200000))=true then some false
 else fO F l7 (bE (n4*n15))) (fun k14=>if x9.asNo=true then k14 (bE (x9.weight+1))
 else k14 x9.weight)
 else if (decide ((bE (n4*x9.weight))>200000))=true then some false
 else fO F l7 (bE (n4*x9.weight)) else none
def On(F:Nat)(a1:(List (B8×(Option ae)))):Option Bool:=
 fO F a1 1
def nW(F:Nat)(k12:(List (B8×aa))->Option aq):List aT->(List (B8×aa))->Option aq
 |[],m17=>k12 m17
 |x19::tl2,m17=>nW F k12 tl2 (bM m17 x19.Name (aa.mk ((aG m17 x19.Name).getD (aa.mk false false ([]:B8) 0)).hasText true ((aG m17 x19.Name).getD (aa.mk false false ([]:B8) 0)).text x19.N))
def nX(F:Nat)(k2:(List (B8×aa))->Option aq):List bC->(List (B8×aa))->Option aq
 |[],m7=>k2 m7
 |x9::tl1,m7=>nX F k2 tl1 (bM m7 x9.Name (aa.mk true ((aG m7 x9.Name).getD (aa.mk false false ([]:B8) 0)).hasNumber x9.Value ((aG m7 x9.Name).getD (aa.mk false false ([]:B8) 0)).number))
def MM(F:Nat)(a1:aZ):Option aq:=
 jn (fun(m3:List (B8×aa))=>jn (fun(m13:List (B8×aa))=>some (aq.mk m13 (none:Option (List (B8×Bool))))) (fun k12=>nW F k12 a1.Numbers m3)) (fun k2=>nX F k2 a1.Texts ([]:List (B8×aa)))
def zt(F:Nat)(a1:aq)(a2:B8):Option (aa×Bool):=
 if a1.known.isNone=true then some (((aG a1.by_ a2).getD (aa.mk false false ([]:B8) 0)),true)
 else some (((aG a1.by_ a2).getD (aa.mk false false ([]:B8) 0)),((aG (a1.known.getD []) a2).getD false))
def kP(F:Nat)(a2:B8)(k3:Option Int):List B8->Int->Option Int
  |[],n5=>k3
  |x7::tl1,n5=>if (a2==x7)=true then some n5
 else kP F a2 k3 tl1 (n5+1)
def JB(F:Nat)(a1:(List B8))(a2:B8):Option Int:=
 jn (some (-1)) (fun k3=>kP F a2 k3 a1 0)
def DG(F:Nat)(a1:(List B8))(a2:B8):Option Bool:=
 (JB F a1 a2).bind fun y3=>some (decide (y3>=0))
def G8(F:Nat)(a1:Bool):Option Int:=
 if a1=true then some 1
 else some 2
def A5(F:Nat)(a1:cT)(a2:aq):Option Int:=
 (zt F a2 a1.name).bind fun y3=>if (!(y3.2))=true then some 0
 else if (y3.1).hasText=true then (DG F a1.texts (y3.1).text).bind fun y7=>(G8 F y7).bind fun y9=>some y9
 else (G8 F false).bind fun y11=>some y11
def Hi(F:Nat)(a1:B8)(a2:B8):Option Bool:=
 if (decide ((a1.length:Int)>=(a2.length:Int)))=true then if 0<=(a2.length:Int)/\(a2.length:Int).toNat<=a1.length then some ((a1.take (a2.length:Int).toNat)==a2) else none
 else some false
def Du(F:Nat)(a1:B8)(a2:B8):Option Bool:=
 (Hi F a1 a2).bind fun y3=>some y3
def Jd(F:Nat)(a1:B8)(a2:Bool)(a3:Bool)(a4:B8)(a5:Int):Option Bool:=
 (Du F a4 a1).bind fun y6=>some y6
def kK(F:Nat)(a2:Bool)(a3:Bool)(a4:B8)(a5:Int)(k6:Option Int):List B8->Int->Option Int
  |[],n8=>k6
  |x10::tl1,n8=>(Jd F x10 a2 a3 a4 a5).bind fun y12=>if y12=true then some n8
 else kK F a2 a3 a4 a5 k6 tl1 (n8+1)
def Jg(F:Nat)(a1:(List B8))(a2:Bool)(a3:Bool)(a4:B8)(a5:Int):Option Int:=
 jn (some (-1)) (fun k6=>kK F a2 a3 a4 a5 k6 a1 0)
def Hf(F:Nat)(a1:(List B8))(a2:Bool)(a3:Bool)(a4:B8)(a5:Int):Option Bool:=
 (Jg F a1 a2 a3 a4 a5).bind fun y6=>some (decide (y6>=0))
def A4(F:Nat)(a1:cq)(a2:aq):Option Int:=
 (zt F a2 a1.name).bind fun y3=>if (!(y3.2))=true then some 0
 else if (y3.1).hasText=true then (Hf F a1.texts (y3.1).hasText (y3.1).hasNumber (y3.1).text (y3.1).number).bind fun y7=>(G8 F y7).bind fun y9=>some y9
 else (G8 F false).bind fun y11=>some y11
def A3(F:Nat)(a1:cN)(a2:aq):Option Int:=
 (zt F a2 a1.name).bind fun y3=>if (!(y3.2))=true then some 0
 else if (y3.1).hasText=true then (G8 F true).bind fun y7=>some y7
 else (G8 F (y3.1).hasNumber).bind fun y9=>some y9
def He(F:Nat)(a1:Int)(a2:Int)(a3:Int):Option Bool:=
 if (a2==1)=true then some (decide (a1<a3))
 else if (a2==2)=true then some (decide (a1<=a3))
 else if (a2==3)=true then some (a1==a3)
 else if (a2==4)=true then some (decide (a1>=a3))
 else some (decide (a1>a3))
def A2(F:Nat)(a1:cp)(a2:aq):Option Int:=
 (zt F a2 a1.name).bind fun y3=>if (!(y3.2))=true then some 0
 else if (y3.1).hasNumber=true then (He F (y3.1).number a1.op a1.n).bind fun y7=>(G8 F y7).bind fun y9=>some y9
 else (G8 F false).bind fun y11=>some y11
def Om(F:Nat)(a1:Int):Option Int:=
 if (a1==1)=true then some 2
 else if (a1==2)=true then some 1
 else some 0
def A0(Riholds:KV->aq->Option Int)(F:Nat)(a1:cM)(a2:aq):Option Int:=
 (Riholds a1.kid a2).bind fun y3=>(Om F y3).bind fun y5=>some y5
def fR(Riholds:KV->aq->Option Int)(F:Nat)(a2:aq)(k3:Int->Option Int):List KV->Int->Option Int
  |[],n7=>k3 n7
  |x10::tl1,n7=>(Riholds x10 a2).bind fun y12=>jn (fun(n15:Int)=>fR Riholds F a2 k3 tl1 n15) (fun k14=>if (y12==2)=true then some 2
 else if (y12==0)=true then k14 0
 else k14 n7)
def Mp(Riholds:KV->aq->Option Int)(F:Nat)(a1:cP)(a2:aq):Option Int:=
 jn (fun(n4:Int)=>some n4) (fun k3=>fR Riholds F a2 k3 a1.kids 1)
def fQ(Riholds:KV->aq->Option Int)(F:Nat)(a2:aq)(k3:Int->Option Int):List KV->Int->Option Int
  |[],n7=>k3 n7
  |x10::tl1,n7=>(Riholds x10 a2).bind fun y12=>jn (fun(n15:Int)=>fQ Riholds F a2 k3 tl1 n15) (fun k14=>if (y12==1)=true then some 1
 else if (y12==0)=true then k14 0
 else k14 n7)
def Mo(Riholds:KV->aq->Option Int)(F:Nat)(a1:cO)(a2:aq):Option Int:=
 jn (fun(n4:Int)=>some n4) (fun k3=>fQ Riholds F a2 k3 a1.kids 2)
def Mm(F:Nat)(a1:cG)(a2:aq):Option Int:=
 some 1
def gn(Riholds:KV->aq->Option Int)(F:Nat)(k:KV)(a1:aq):Option Int:=
 H7 (gJ bR 147 k) (fun y=>A5 F y a1) (H7 (gJ bz 148 k) (fun y=>A4 F y a1) (H7 (gJ bS 150 k) (fun y=>A3 F y a1) (H7 (gJ bx 152 k) (fun y=>A2 F y a1) (H7 (gJ b8 154 k) (fun y=>A0 Riholds F y a1) (H7 (gJ bU 156 k) (fun y=>Mp Riholds F y a1) (H7 (gJ bT 157 k) (fun y=>Mo Riholds F y a1) (H7 (gJ ce 159 k) (fun y=>Mm F y a1) (none))))))))
def cX:Nat->KV->aq->Option Int
 |0,_,_=>none
 |F+1,k,a1=>gn (cX F) F k a1
def OP(F:Nat)(a1:List Int):Option (List Int):=if a1.length<4611686018427387904 then some (u5 a1) else none
def Jm(F:Nat)(a1:List Int):Option (List Int):=if a1.length<=140737488355328 then some (B0 a1) else none
def fS(F:Nat)(x11:Int)(k13:(List Int)->Option (List Int)):Nat->Int->(List Int)->Option (List Int)
  |0,n17,l18=>k13 l18
  |tl2+1,n17,l18=>(ct ([(bE (x11 - 1)),x11,(bE (x11+1))]:List Int) n17).bind fun x20=>(tO F x20).bind fun y22=>jn (fun(l25:List Int)=>fS F x11 k13 tl2 (n17+1) l25) (fun k24=>if y22=true then if (l18++([x20]:List Int)).length*8<=140737488355328 then k24 (l18++([x20]:List Int)) else none
 else k24 l18)
def io(F:Nat)(k2:(List Int)->Option (List Int)):List Int->(List Int)->Option (List Int)
 |[],l7=>k2 l7
 |x11::tl1,l7=>jn (fun(l10:List Int)=>io F k2 tl1 l10) (fun k9=>jn (fun(l14:List Int)=>k9 l14) (fun k13=>if ((3:Nat):Int)<=9223372036854775807 then fS F x11 k13 ((((3:Nat):Int):Int).toNat) 0 l7 else none))
def zu(F:Nat)(a1:ae):Option (List Int):=
 jn (fun(l3:List Int)=>(OP F l3).bind fun y30=>if y30.length=l3.length then (Jm F y30).bind fun y33=>some y33 else none) (fun k2=>io F k2 a1.numbers ([0]:List Int))
def MP(F:Nat)(a1:(List B8)):Option (List B8):=
 Fx a1.length (fun b7=>if b7=true then some ([]:List B8)
 else if (([]:List B8)++a1).length*16<=140737488355328 then some (([]:List B8)++a1) else none)
def Jh(F:Nat)(a1:B8)(a2:Int)(a3:B8):Option Bool:=
 if (decide ((a1.length:Int)>a2))=true then (Du F a3 a1).bind fun y5=>some y5
 else some false
def gq(F:Nat)(a2:Int)(a3:B8)(k4:Option Int):List B8->Int->Option Int
  |[],n6=>k4
  |x8::tl1,n6=>(Jh F x8 a2 a3).bind fun y10=>if y10=true then some n6
 else gq F a2 a3 k4 tl1 (n6+1)
def xn(F:Nat)(a1:(List B8))(a2:Int)(a3:B8):Option Int:=
 jn (some (-1)) (fun k4=>gq F a2 a3 k4 a1 0)
def xo(F:Nat)(a1:(List B8))(a2:Int)(a3:B8):Option Bool:=
 (xn F a1 a2 a3).bind fun y4=>some (decide (y4>=0))
def Hg(F:Nat)(a1:B8)(a2:(List B8))(a3:Int):Option Bool:=
 (xo F a2 a3 a1).bind fun y4=>some y4
def jm(F:Nat)(a1:B8)(a2:(List B8))(a3:(List B8))(x12:B8)(k18:(List B8)->Option (B8×Bool)):Nat->Int->(List B8)->Option (B8×Bool)
 |0,_,_=>none
 |n+1,n22,l23=>if (decide (n22<=126))=true then jn (fun(l26:List B8)=>jm F a1 a2 a3 x12 k18 n (IntKind.wrap .u8 (n22+1)) l26) (fun k25=>if x12.length+(Utf8.encode (IntKind.wrap .i32 n22)).data.toList.length<=9223372036854775807 then (Hg F (x12++(Utf8.encode (IntKind.wrap .i32 n22)).data.toList) a2 (a1.length:Int)).bind fun y28=>if y28=true then k25 l23
 else (DG F a3 (x12++(Utf8.encode (IntKind.wrap .i32 n22)).data.toList)).bind fun y31=>if (!y31)=true then some ((x12++(Utf8.encode (IntKind.wrap .i32 n22)).data.toList),true)
 else if (l23++([(x12++(Utf8.encode (IntKind.wrap .i32 n22)).data.toList)]:List B8)).length*16<=140737488355328 then k25 (l23++([(x12++(Utf8.encode (IntKind.wrap .i32 n22)).data.toList)]:List B8)) else none else none)
 else k18 l23
def ig(F:Nat)(a1:B8)(a2:(List B8))(a3:(List B8))(k4:Option (B8×Bool)):Nat->Int->(List B8)->Option (B8×Bool)
 |0,_,_=>none
 |n+1,n7,l8=>if (decide (n7<((l8.length:Nat):Int)))=true then jn (fun(l11:List B8)=>ig F a1 a2 a3 k4 n (bE (n7+1)) l11) (fun k10=>(ct l8 n7).bind fun x12=>(DG F a3 x12).bind fun y14=>if (!y14)=true then some (x12,true)
 else if ((x12.length:Int)==1000)=true then k10 l8
 else jn (fun(l19:List B8)=>k10 l19) (fun k18=>jm F a1 a2 a3 x12 k18 F 32 l8))
 else k4
def Hj(F:Nat)(a1:B8)(a2:(List B8))(a3:(List B8)):Option (B8×Bool):=
 jn (some (([]:B8),false)) (fun k4=>ig F a1 a2 a3 k4 F 0 ([a1]:List B8))
def Dw(F:Nat)(a1:List B8):Option (List B8):=if a1.length<4611686018427387904 then some (dU a1) else none
def Ds(F:Nat)(a1:List B8):Option (List B8):=if a1.length<=140737488355328 then some (B0 a1) else none
def il(F:Nat)(a1:ae)(k10:(List B8)->Option (List B8)):List B8->(List B8)->Option (List B8)
  |[],l15=>k10 l15
  |x17::tl1,l15=>(Hj F x17 a1.begins a1.is).bind fun y19=>jn (fun(l22:List B8)=>il F a1 k10 tl1 l22) (fun k21=>if (y19.2)=true then if (l15++([(y19.1)]:List B8)).length*16<=140737488355328 then k21 (l15++([(y19.1)]:List B8)) else none
 else k21 l15)
def q9(F:Nat)(a1:ae):Option (List B8):=
 (MP F a1.is).bind fun y2=>(DG F a1.begins ([]:B8)).bind fun y4=>jn (fun(l7:List B8)=>jn (fun(l11:List B8)=>(Dw F l11).bind fun y26=>if y26.length=l11.length then (Ds F y26).bind fun y29=>some y29 else none) (fun k10=>il F a1 k10 l7 y2)) (fun k6=>if (!y4)=true then if (([([]:B8)]:List B8)++a1.begins).length*16<=140737488355328 then k6 (([([]:B8)]:List B8)++a1.begins) else none
 else k6 a1.begins)
def eK(R0:((List (aa×Bool))×(List (B8×(List aa))))->aa->Option ((List (aa×Bool))×(List (B8×(List aa)))))(F:Nat)(x51:B8)(k53:(List (aa×Bool))->(List (B8×(List aa)))->Option ((List (aa×Bool))×(List (B8×(List aa))))):List aa->(List (aa×Bool))->(List (B8×(List aa)))->Option ((List (aa×Bool))×(List (B8×(List aa))))
 |[],m60,m61=>k53 m60 m61
 |x63::tl4,m60,m61=>(R0 (m60,m61) (aa.mk true x63.hasNumber x51 x63.number)).bind fun y65=>eK R0 F x51 k53 tl4 (y65.1) (y65.2)
def dm(R0:((List (aa×Bool))×(List (B8×(List aa))))->aa->Option ((List (aa×Bool))×(List (B8×(List aa)))))(F:Nat)(l12:List aa):List B8->(List (aa×Bool))->(List (B8×(List aa)))->Option ((List (aa×Bool))×(List (B8×(List aa))))
 |[],m45,m46=>some (m45,m46)
 |x51::tl3,m45,m46=>jn (fun(m49:List (aa×Bool)) (m50:List (B8×(List aa)))=>dm R0 F l12 tl3 m49 m50) (fun k48=>jn (fun(m54:List (aa×Bool)) (m55:List (B8×(List aa)))=>k48 m54 m55) (fun k53=>eK R0 F x51 k53 l12 m45 m46))
def go(R0:((List (aa×Bool))×(List (B8×(List aa))))->aa->Option ((List (aa×Bool))×(List (B8×(List aa)))))(F:Nat)(k22:(List (aa×Bool))->(List (B8×(List aa)))->Option ((List (aa×Bool))×(List (B8×(List aa))))):List aa->(List (aa×Bool))->(List (B8×(List aa)))->Option ((List (aa×Bool))×(List (B8×(List aa))))
 |[],m29,m30=>k22 m29 m30
 |x32::tl2,m29,m30=>(R0 (m29,m30) x32).bind fun y34=>go R0 F k22 tl2 (y34.1) (y34.2)
def gP(F:Nat)(k11:(List aa)->Option ((List (aa×Bool))×(List (B8×(List aa))))):List Int->(List aa)->Option ((List (aa×Bool))×(List (B8×(List aa))))
 |[],l16=>k11 l16
 |x18::tl1,l16=>if (l16++([(aa.mk false true ([]:B8) x18)]:List aa)).length*32<=140737488355328 then gP F k11 tl1 (l16++([(aa.mk false true ([]:B8) x18)]:List aa)) else none
def Oh(R0:((List (aa×Bool))×(List (B8×(List aa))))->aa->Option ((List (aa×Bool))×(List (B8×(List aa)))))(F:Nat)(a1:List B8)(a2:List B8)(a3:List Int)(a4:Bool)(a5:Bool)(a6:Bool)(a7:Int)(q0:List (aa×Bool))(q1:List (B8×(List aa))):Option ((List (aa×Bool))×(List (B8×(List aa)))):=
 if a5=true then (zu F (ae.mk a1 a2 a3 a4 a5 a6 a7)).bind fun y9=>jn (fun(l12:List aa)=>jn (fun(m23:List (aa×Bool)) (m24:List (B8×(List aa)))=>if (!a4)=true then if (!a6)=true then some (m23,m24)
 else (q9 F (ae.mk a1 a2 a3 a4 a5 a6 a7)).bind fun y39=>dm R0 F l12 y39 m23 m24
 else (q9 F (ae.mk a1 a2 a3 a4 a5 a6 a7)).bind fun y69=>dm R0 F l12 y69 m23 m24) (fun k22=>go R0 F k22 l12 q0 q1)) (fun k11=>gP F k11 y9 ([(aa.mk false false ([]:B8) 0)]:List aa))
 else jn (fun(l100:List aa)=>jn (fun(m116:List (aa×Bool)) (m117:List (B8×(List aa)))=>if (!a4)=true then if (!a6)=true then some (m116,m117)
 else (q9 F (ae.mk a1 a2 a3 a4 a5 a6 a7)).bind fun y132=>dm R0 F l100 y132 m116 m117
 else (q9 F (ae.mk a1 a2 a3 a4 a5 a6 a7)).bind fun y162=>dm R0 F l100 y162 m116 m117) (fun k115=>go R0 F k115 l100 q0 q1)) (fun k99=>if a6=true then (zu F (ae.mk a1 a2 a3 a4 a5 a6 a7)).bind fun y102=>jn (fun(l105:List aa)=>k99 l105) (fun k104=>gP F k104 y102 ([(aa.mk false false ([]:B8) 0)]:List aa))
 else k99 ([(aa.mk false false ([]:B8) 0)]:List aa))
def kI(F:Nat)(x74:B8)(m83:List (aa×Bool))(m84:List (B8×(List aa)))(v80:aa):Option ((List (aa×Bool))×(List (B8×(List aa)))):=
 jn (fun(m86:List (aa×Bool)) (m87:List (B8×(List aa)))=>some (m86,m87)) (fun k85=>if (!((aG m83 v80).getD false))=true then if (((aG m84 x74).getD [])++([v80]:List aa)).length*32<=140737488355328 then k85 (bM m83 v80 true) (bM m84 x74 (((aG m84 x74).getD [])++([v80]:List aa))) else none
 else k85 m83 m84)
def gp(F:Nat)(a1:(List (B8×(Option ae))))(a4:List (B8×aa))(k53:(List B8)->(List (B8×(List aa)))->(List (B8×aa))->(List (B8×Bool))->Option ((List (B8×(List aa)))×(List B8)×(List (B8×aa))×(List (B8×Bool)))):List B8->(List B8)->(List (B8×(List aa)))->(List (B8×aa))->(List (B8×Bool))->Option ((List (B8×(List aa)))×(List B8)×(List (B8×aa))×(List (B8×Bool)))
  |[],l64,m65,m66,m67=>k53 l64 m65 m66 m67
  |x74::tl1,l64,m65,m66,m67=>jn (fun(l70:List B8) (m71:List (B8×(List aa))) (m72:List (B8×aa)) (m73:List (B8×Bool))=>gp F a1 a4 k53 tl1 l70 m71 m72 m73) (fun k69=>if ((aG a4 x74).isSome)=true then k69 l64 m65 (bM m66 x74 ((aG a4 x74).getD (aa.mk false false ([]:B8) 0))) (bM m67 x74 true)
 else if (l64++([x74]:List B8)).length*16<=140737488355328 then (((aG a1 x74).getD (none:Option ae))).bind fun x78=>(Oh (fun p x=>kI F x74 p.1 p.2 x) F x78.is x78.begins x78.numbers x78.asText x78.asNo x78.has x78.weight ([]:List (aa×Bool)) m65).bind fun y90=>k69 (l64++([x74]:List B8)) (y90.2) m66 m67 else none)
def HD(F:Nat)(a1:(List (B8×(Option ae))))(a2:Bool)(a3:KV)(a4:List (B8×aa)):Option ((List (B8×(List aa)))×(List B8)×(List (B8×aa))×(List (B8×Bool))):=
 (qc a1).bind fun l51=>jn (fun(l54:List B8) (m55:List (B8×(List aa))) (m56:List (B8×aa)) (m57:List (B8×Bool))=>some (m55,l54,m56,m57)) (fun k53=>gp F a1 a4 k53 l51 ([]:List B8) ([]:List (B8×(List aa))) ([]:List (B8×aa)) ([]:List (B8×Bool)))
def Mi(F:Nat)(a1:aq)(a2:Bool)(a3:KV):Option Int:=
 if a2=true then (cX F a3 a1).bind fun y5=>(Om F y5).bind fun y7=>some y7
 else (cX F a3 a1).bind fun y9=>some y9
def jG(R36:Int->(List (B8×(List aa)))->Bool->KV->(List B8)->(List (B8×aa))->(List (B8×Bool))->Option (Bool×(List (B8×aa))×(List (B8×Bool))))(F:Nat)(a1:Int)(a2:(List (B8×(List aa))))(a3:Bool)(a4:KV)(a5:List B8)(x39:B8)(k41:(List (B8×aa))->(List (B8×Bool))->Option (Bool×(List (B8×aa))×(List (B8×Bool)))):List aa->(List (B8×aa))->(List (B8×Bool))->Option (Bool×(List (B8×aa))×(List (B8×Bool)))
  |[],m48,m49=>k41 m48 m49
  |x51::tl1,m48,m49=>(R36 (bE (a1+1)) a2 a3 a4 a5 (bM m48 x39 x51) m49).bind fun y53=>if (y53.1)=true then some (true,(y53.2.1),(y53.2.2))
 else jG R36 F a1 a2 a3 a4 a5 x39 k41 tl1 (y53.2.1) (y53.2.2)
def ld(R36:Int->(List (B8×(List aa)))->Bool->KV->(List B8)->(List (B8×aa))->(List (B8×Bool))->Option (Bool×(List (B8×aa))×(List (B8×Bool))))(F:Nat)(a1:Int)(a2:(List (B8×(List aa))))(a3:Bool)(a4:KV)(a5:List B8)(a6:List (B8×aa))(a7:List (B8×Bool)):Option (Bool×(List (B8×aa))×(List (B8×Bool))):=
 (Mi F (aq.mk a6 (some a7)) a3 a4).bind fun y34=>if (y34==1)=true then some (true,a6,a7)
 else if (y34==2)=true then some (false,a6,a7)
 else if (a1==((a5.length:Nat):Int))=true then some (false,a6,a7)
 else (ct a5 a1).bind fun x39=>jn (fun(m42:List (B8×aa)) (m43:List (B8×Bool))=>some (false,(di m42 x39),(di m43 x39))) (fun k41=>jG R36 F a1 a2 a3 a4 a5 x39 k41 ((aG a2 x39).getD ([]:(List aa))) a6 (bM a7 x39 true))
def xF:Nat->Int->(List (B8×(List aa)))->Bool->KV->(List B8)->(List (B8×aa))->(List (B8×Bool))->Option (Bool×(List (B8×aa))×(List (B8×Bool)))
 |0,_,_,_,_,_,_,_=>none
 |F+1,a1,a2,a3,a4,a5,a6,a7=>ld (xF F) F a1 a2 a3 a4 a5 a6 a7
def gS(F:Nat)(y9:KV)(y11:(List (B8×(Option ae))))(y16:aq)(y18:Int)(k28:(List B8)->Option ((List B8)×Bool×Int)):List B8->(List (B8×aa))->(List B8)->Option ((List B8)×Bool×Int)
  |[],m34,l35=>k28 l35
  |x37::tl2,m34,l35=>(HD F y11 (y18==1) y9 (di m34 x37)).bind fun y39=>(xF F 0 (y39.1) (y18==1) y9 (y39.2.1) (y39.2.2.1) (y39.2.2.2)).bind fun y41=>jn (fun(m44:List (B8×aa)) (l45:List B8)=>gS F y9 y11 y16 y18 k28 tl2 m44 l45) (fun k43=>if (y41.1)=true then if (l35++([x37]:List B8)).length*16<=140737488355328 then k43 (bM (di m34 x37) x37 ((aG y16.by_ x37).getD (aa.mk false false ([]:B8) 0))) (l35++([x37]:List B8)) else none
 else k43 (di m34 x37) l35)
def fC(F:Nat)(y9:KV)(y11:(List (B8×(Option ae))))(y16:aq)(y18:Int):List (B8×(Option ae))->(List (B8×aa))->Option ((List B8)×Bool×Int)
 |[],m22=>(qc y11).bind fun l26=>jn (fun(l29:List B8)=>some (l29,(y18==1),0)) (fun k28=>gS F y9 y11 y16 y18 k28 l26 m22 ([]:List B8))
 |e24::l25,m22=>fC F y9 y11 y16 y18 l25 (bM m22 e24.1 ((aG y16.by_ e24.1).getD (aa.mk false false ([]:B8) 0)))
def Jq(F:Nat)(a1:aV)(a2:aZ):Option ((List B8)×Bool×Int):=
 (MO F a1).bind fun y3=>if (y3 != 0)=true then some (([]:List B8),false,y3)
 else (MN F a2).bind fun y6=>if (y6 != 0)=true then some (([]:List B8),false,y6)
 else (Ja F a1).bind fun y9=>(Hb F y9 ([]:List (B8×(Option ae)))).bind fun y11=>(On F y11).bind fun y13=>if (!y13)=true then some (([]:List B8),false,3)
 else (MM F a2).bind fun y16=>(cX F y9 y16).bind fun y18=>fC F y9 y11 y16 y18 y11 ([]:List (B8×aa))
def Ou(F:Nat):Option Bool:=some true
def MQ(F:Nat)(a1:aV)(a2:aZ):Option (Bool×Int):=
 (MO F a1).bind fun y3=>if (y3 != 0)=true then some (false,y3)
 else (MN F a2).bind fun y6=>if (y6 != 0)=true then some (false,y6)
 else (Ja F a1).bind fun y9=>(MM F a2).bind fun y11=>if y9.t∈([147,148,150,152,154,156,157,159]:List Nat) then (cX F y9 y11).bind fun y14=>some ((y14==1),0) else none
def Ol(F:Nat)(a1:bC)(a2:bC):Option Int:=
 if (Op.bytesLess a1.Name a2.Name)=true then some (-1)
 else some 1
def OO(F:Nat)(a1:List bC):Option (List bC):=rW (fun x3 y4=>Ol F x3 y4) a1
def Ok(F:Nat)(a1:aT)(a2:aT):Option Int:=
 if (Op.bytesLess a1.Name a2.Name)=true then some (-1)
 else some 1
def ON(F:Nat)(a1:List aT):Option (List aT):=rW (fun x3 y4=>Ok F x3 y4) a1
def my(F:Nat)(a3:(List B8))(k52:(List aT)->Option aZ):List aT->(List aT)->Option aZ
  |[],l57=>k52 l57
  |x59::tl4,l57=>(DG F a3 x59.Name).bind fun y61=>jn (fun(l64:List aT)=>my F a3 k52 tl4 l64) (fun k63=>if y61=true then if (l57++([x59]:List aT)).length*24<=140737488355328 then k63 (l57++([x59]:List aT)) else none
 else k63 l57)
def mz(F:Nat)(a3:(List B8))(k36:(List aT)->Option aZ):List aT->(List aT)->Option aZ
  |[],l41=>k36 l41
  |x43::tl3,l41=>(DG F a3 x43.Name).bind fun y45=>jn (fun(l48:List aT)=>mz F a3 k36 tl3 l48) (fun k47=>if (!y45)=true then if (l41++([x43]:List aT)).length*24<=140737488355328 then k47 (l41++([x43]:List aT)) else none
 else k47 l41)
def mA(F:Nat)(a3:(List B8))(k20:(List bC)->Option aZ):List bC->(List bC)->Option aZ
  |[],l25=>k20 l25
  |x27::tl2,l25=>(DG F a3 x27.Name).bind fun y29=>jn (fun(l32:List bC)=>mA F a3 k20 tl2 l32) (fun k31=>if y29=true then if (l25++([x27]:List bC)).length*32<=140737488355328 then k31 (l25++([x27]:List bC)) else none
 else k31 l25)
def mB(F:Nat)(a3:(List B8))(k4:(List bC)->Option aZ):List bC->(List bC)->Option aZ
  |[],l9=>k4 l9
  |x11::tl1,l9=>(DG F a3 x11.Name).bind fun y13=>jn (fun(l16:List bC)=>mB F a3 k4 tl1 l16) (fun k15=>if (!y13)=true then if (l9++([x11]:List bC)).length*32<=140737488355328 then k15 (l9++([x11]:List bC)) else none
 else k15 l9)
def Ot(F:Nat)(a1:aZ)(a2:aZ)(a3:(List B8)):Option aZ:=
 jn (fun(l5:List bC)=>jn (fun(l21:List bC)=>jn (fun(l37:List aT)=>jn (fun(l53:List aT)=>(OO F l21).bind fun y68=>if y68.length=l21.length then (ON F l53).bind fun y71=>if y71.length=l53.length then some (aZ.mk a1.Kind a2.Subject y68 y71) else none else none) (fun k52=>my F a3 k52 a1.Numbers l37)) (fun k36=>mz F a3 k36 a2.Numbers ([]:List aT))) (fun k20=>mA F a3 k20 a1.Texts l5)) (fun k4=>mB F a3 k4 a2.Texts ([]:List bC))
def mg(F:Nat)(a1:B8)(k2:Option Bool):Nat->Int->Option Bool
  |0,n4=>k2
  |tl1+1,n4=>if 0<=n4/\n4.toNat<20 then if (((tg [] [([114,117,108,101]:B8),([97,98,111,117,116]:B8),([119,104,101,110]:B8),([119,97,105,118,101]:B8),([102,111,114]:B8),([102,114,111,109]:B8),([116,111]:B8),([98,121]:B8),([97,115]:B8),([112,97,115,115]:B8),([110,111,116,101]:B8),([119,97,114,110]:B8),([100,101,110,121]:B8),([111,114]:B8),([97,110,100]:B8),([116,114,117,101]:B8),([105,115]:B8),([98,101,103,105,110,115]:B8),([104,97,115]:B8),([110,111,116]:B8)]) n4.toNat)==a1)=true then some true
 else mg F a1 k2 tl1 (n4+1) else none
def Og(F:Nat)(a1:B8):Option Bool:=
 jn (some false) (fun k2=>if (20:Int)<=9223372036854775807 then mg F a1 k2 ((20:Int).toNat) 0 else none)
def Of(F:Nat)(a1:Int):Option Bool:=
 if (decide (a1>=97))=true then if (decide (a1<=122))=true then some true
 else if (decide (a1>=48))=true then if (decide (a1<=57))=true then some true
 else some (a1==45)
 else some (a1==45)
 else if (decide (a1>=48))=true then if (decide (a1<=57))=true then some true
 else some (a1==45)
 else some (a1==45)
def nY(F:Nat)(a1:B8)(k13:Option Bool):Nat->Int->Option Bool
  |0,n15=>k13
  |tl1+1,n15=>(ct a1 n15).bind fun c17=>(Of F (c17.toNat:Int)).bind fun y19=>if (!y19)=true then some false
 else nY F a1 k13 tl1 (n15+1)
def Mj(F:Nat)(a1:B8):Option Bool:=
 if (a1==([]:B8))=true then some false
 else if (decide ((a1.length:Int)>40))=true then some false
 else (ct a1 0).bind fun c4=>if (decide ((c4.toNat:Int)<97))=true then some false
 else (ct a1 0).bind fun c7=>if (decide ((c7.toNat:Int)>122))=true then some false
 else (Og F a1).bind fun y10=>if y10=true then some false
 else jn (some true) (fun k13=>if (a1.length:Int)<=9223372036854775807 then nY F a1 k13 (((a1.length:Int):Int).toNat) 0 else none)
def nU(F:Nat)(a1:B8)(k3:Option Bool):Nat->Int->Option Bool
  |0,n5=>k3
  |tl1+1,n5=>(ct a1 n5).bind fun c7=>if (decide ((c7.toNat:Int)<32))=true then some false
 else (ct a1 n5).bind fun c10=>if (decide ((c10.toNat:Int)>126))=true then some false
 else nU F a1 k3 tl1 (n5+1)
def ML(F:Nat)(a1:B8):Option Bool:=
 if (decide ((a1.length:Int)>1000))=true then some false
 else jn (some true) (fun k3=>if (a1.length:Int)<=9223372036854775807 then nU F a1 k3 (((a1.length:Int):Int).toNat) 0 else none)
def MK(F:Nat)(a1:Int)(a2:Int)(a3:Int):Option Bool:=
 if (decide (a1<a2))=true then some true
 else some (decide (a1>a3))
def mu(F:Nat)(a1:aZ)(k32:Option Int):List aT->Int->Option Int
  |[],n34=>k32
  |x36::tl2,n34=>(Mj F x36.Name).bind fun y38=>jn (mu F a1 k32 tl2 (n34+1)) (fun k40=>if (!y38)=true then some 8
 else (ct a1.Numbers n34).bind fun x42=>(MK F x42.N (-1000000000000) 1000000000000).bind fun y44=>if y44=true then some 9
 else if (decide (n34>0))=true then (ct a1.Numbers n34).bind fun x48=>(ct a1.Numbers (bE (n34 - 1))).bind fun x50=>if (Op.bytesLess x48.Name x50.Name||x48.Name==x50.Name)=true then some 10
 else k40
 else k40)
def mw(F:Nat)(a1:aZ)(k9:Option Int):List bC->Int->Option Int
  |[],n11=>k9
  |x13::tl1,n11=>(Mj F x13.Name).bind fun y15=>jn (mw F a1 k9 tl1 (n11+1)) (fun k17=>if (!y15)=true then some 8
 else (ct a1.Texts n11).bind fun x19=>(ML F x19.Value).bind fun y21=>if (!y21)=true then some 2
 else if (decide (n11>0))=true then (ct a1.Texts n11).bind fun x25=>(ct a1.Texts (bE (n11 - 1))).bind fun x27=>if (Op.bytesLess x25.Name x27.Name||x25.Name==x27.Name)=true then some 10
 else k17
 else k17)
def Oq(F:Nat)(a1:aZ):Option Int:=
 (Mj F a1.Kind).bind fun y2=>if (!y2)=true then some 8
 else (ML F a1.Subject).bind fun y5=>if (!y5)=true then some 2
 else if (decide (((a1.Texts.length:Nat):Int)>30))=true then some 3
 else jn (if (decide (((a1.Numbers.length:Nat):Int)>30))=true then some 3
 else jn (some 0) (fun k32=>mu F a1 k32 a1.Numbers 0)) (fun k9=>mw F a1 k9 a1.Texts 0)
def OQ(F:Nat)(a1:Int)(a2:Int)(a3:List B8):Option (List B8):=if 0<=a1/\a1<=a2/\a2.toNat<=a3.length then some (a3.take a1.toNat++a3.drop a2.toNat) else none
def mi(F:Nat)(a1:aZ)(a2:B8)(k22:Bool->Int->Option ab):Nat->Int->Bool->Int->Option ab
  |0,n28,b29,n30=>k22 b29 n30
  |tl2+1,n28,b29,n30=>(ct a1.Numbers n28).bind fun x32=>jn (fun(b35:Bool) (n36:Int)=>mi F a1 a2 k22 tl2 (n28+1) b35 n36) (fun k34=>if (x32.Name==a2)=true then (ct a1.Numbers n28).bind fun x38=>k34 true x38.N
 else k34 b29 n30)
def mj(F:Nat)(a1:aZ)(a2:B8)(k3:Bool->B8->Option ab):Nat->Int->Bool->B8->Option ab
  |0,n9,b10,s11=>k3 b10 s11
  |tl1+1,n9,b10,s11=>(ct a1.Texts n9).bind fun x13=>jn (fun(b16:Bool) (s17:B8)=>mj F a1 a2 k3 tl1 (n9+1) b16 s17) (fun k15=>if (x13.Name==a2)=true then (ct a1.Texts n9).bind fun x19=>k15 true x19.Value
 else k15 b10 s11)
def MJ(F:Nat)(a1:aZ)(a2:B8):Option ab:=
 jn (fun(b4:Bool) (s5:B8)=>jn (fun(b23:Bool) (n24:Int)=>some (ab.mk b4 b23 s5 n24)) (fun k22=>if ((a1.Numbers.length:Nat):Int)<=9223372036854775807 then mi F a1 a2 k22 ((((a1.Numbers.length:Nat):Int):Int).toNat) 0 false 0 else none)) (fun k3=>if ((a1.Texts.length:Nat):Int)<=9223372036854775807 then mj F a1 a2 k3 ((((a1.Texts.length:Nat):Int):Int).toNat) 0 false ([]:B8) else none)
def Hk(F:Nat)(a1:Int)(a2:Int)(a3:Int):Option Bool:=
 if (a1==1)=true then some (decide (a2<a3))
 else if (a1==2)=true then some (decide (a2<=a3))
 else if (a1==3)=true then some (a2==a3)
 else if (a1==4)=true then some (decide (a2>=a3))
 else some (decide (a2>a3))
def Js(F:Nat)(a1:B8)(a2:B8):Option Bool:=
 if (decide ((a1.length:Int)>=(a2.length:Int)))=true then if 0<=(a2.length:Int)/\(a2.length:Int).toNat<=a1.length then some ((a1.take (a2.length:Int).toNat)==a2) else none
 else some false
def jr(F:Nat)(a1:aV)(a2:ab)(k9:Option Bool):Nat->Int->Option Bool
 |0,_=>none
 |n+1,n11=>if (decide (n11<((a1.Texts.length:Nat):Int)))=true then if a2.isText=true then jn (fun(b15:Bool)=>jr F a1 a2 k9 n (bE (n11+1))) (fun k14=>(ct a1.Texts n11).bind fun x16=>if (x16==a2.text)=true then some true
 else if (a1.Kind==3)=true then (ct a1.Texts n11).bind fun x20=>(Js F a2.text x20).bind fun y22=>if y22=true then some true
 else k14 y22
 else k14 false)
 else k9
 else k9
def A9(F:Nat)(a1:aV)(a2:ab):Option Bool:=
 if (a1.Kind==4)=true then if a2.isText=true then some true
 else some (a2.isNumber)
 else if (a1.Kind==5)=true then if a2.isNumber=true then (Hk F a1.Op a2.number a1.N).bind fun y7=>some y7
 else some false
 else jn (some false) (fun k9=>jr F a1 a2 k9 F 0)
def mn(R53:aV->aZ->Option Bool)(F:Nat)(a1:aV)(a2:aZ)(k16:Option Bool):Nat->Int->Option Bool
  |0,n18=>k16
  |tl1+1,n18=>(ct a1.Kids n18).bind fun x20=>(er ar x20).bind fun y22=>(R53 y22 a2).bind fun y24=>if (y24 != (a1.Kind==7))=true then some (a1.Kind==8)
 else mn R53 F a1 a2 k16 tl1 (n18+1)
def zo(R53:aV->aZ->Option Bool)(F:Nat)(a1:aV)(a2:aZ):Option Bool:=
 jn ((MJ F a2 a1.Name).bind fun y28=>(A9 F a1 y28).bind fun y30=>some y30) (fun k3=>if (a1.Kind==1)=true then some true
 else if (a1.Kind==6)=true then (ct a1.Kids 0).bind fun x6=>(er ar x6).bind fun y8=>(R53 y8 a2).bind fun y10=>some (!y10)
 else jn (fun(b13:Bool)=>if b13=true then jn (some (a1.Kind==7)) (fun k16=>if ((a1.Kids.length:Nat):Int)<=9223372036854775807 then mn R53 F a1 a2 k16 ((((a1.Kids.length:Nat):Int):Int).toNat) 0 else none)
 else k3) (fun k12=>if (a1.Kind==7)=true then k12 (a1.Kind==7)
 else k12 (a1.Kind==8)))
def I9:Nat->aV->aZ->Option Bool
 |0,_,_=>none
 |F+1,a1,a2=>zo (I9 F) F a1 a2
def OM(F:Nat)(a1:aV):Option aV:=
 some (aV.mk 6 ([]:B8) ([]:List B8) 0 0 ([tY ar a1]:List aU))
def kO(F:Nat)(a1:(List B8))(a2:B8)(k3:Int->Option (Int×Bool)):Nat->Int->Int->Option (Int×Bool)
 |0,_,_=>none
 |n+1,n7,n8=>if (decide (n7<n8))=true then (ct a1 (bE (Int.tdiv (bE (n7+n8)) 2))).bind fun x10=>jn (fun(n13:Int) (n14:Int)=>kO F a1 a2 k3 n n13 n14) (fun k12=>if (Op.bytesLess x10 a2)=true then k12 (bE ((bE (Int.tdiv (bE (n7+n8)) 2))+1)) n8
 else k12 n7 (bE (Int.tdiv (bE (n7+n8)) 2)))
 else k3 n7
def zw(F:Nat)(a1:(List B8))(a2:B8):Option (Int×Bool):=
 jn (fun(n4:Int)=>if (decide (n4<((a1.length:Nat):Int)))=true then (ct a1 n4).bind fun x17=>some (n4,(x17==a2))
 else some (n4,false)) (fun k3=>kO F a1 a2 k3 F 0 ((a1.length:Nat):Int))
def xv(F:Nat)(a1:(List B8))(a2:B8):Option (List B8):=
 (zw F a1 a2).bind fun y3=>if (y3.2)=true then some a1
 else if 0<=(y3.1)/\(y3.1).toNat<=a1.length then if (a1.take (y3.1).toNat).length*16<=140737488355328 then if ((a1.take (y3.1).toNat)++([a2]:List B8)).length*16<=140737488355328 then if 0<=(y3.1)/\(y3.1).toNat<=a1.length then if (((a1.take (y3.1).toNat)++([a2]:List B8))++(a1.drop (y3.1).toNat)).length*16<=140737488355328 then some (((a1.take (y3.1).toNat)++([a2]:List B8))++(a1.drop (y3.1).toNat)) else none else none else none else none else none
def mo(R51:aV->(List B8)->Option (List B8))(F:Nat)(a1:aV)(k6:(List B8)->Option (List B8)):Nat->Int->(List B8)->Option (List B8)
 |0,n11,l10=>k6 l10
 |tl1+1,n11,l10=>(ct a1.Kids n11).bind fun x13=>(er ar x13).bind fun y15=>(R51 y15 l10).bind fun y17=>mo R51 F a1 k6 tl1 (n11+1) y17
def zp(R51:aV->(List B8)->Option (List B8))(F:Nat)(a1:aV)(a2:(List B8)):Option (List B8):=
 if (!(a1.Name==([]:B8)))=true then (xv F a2 a1.Name).bind fun y4=>some y4
 else jn (fun(l7:List B8)=>some l7) (fun k6=>if ((a1.Kids.length:Nat):Int)<=9223372036854775807 then mo R51 F a1 k6 ((((a1.Kids.length:Nat):Int):Int).toNat) 0 a2 else none)
def G9:Nat->aV->(List B8)->Option (List B8)
 |0,_,_=>none
 |F+1,a1,a2=>zp (G9 F) F a1 a2
def gI(R97_1:aV->B8->(List aU)->Option (List aU))(F:Nat)(a1:aV)(a2:B8)(k23:(List aU)->Option (List aU)):Nat->Int->(List aU)->Option (List aU)
 |0,n27,l28=>k23 l28
 |tl1+1,n27,l28=>(ct a1.Kids n27).bind fun x30=>(er ar x30).bind fun y32=>(R97_1 y32 a2 l28).bind fun y34=>gI R97_1 F a1 a2 k23 tl1 (n27+1) y34
def o9(R97_1:aV->B8->(List aU)->Option (List aU))(F:Nat)(a1:aV)(a2:B8)(a3:List aU):Option (List aU):=
 if (a1.Name==a2)=true then if (a3++([tY ar a1]:List aU)).length*88<=140737488355328 then some (a3++([tY ar a1]:List aU)) else none
 else jn (fun(l24:List aU)=>some l24) (fun k23=>if ((a1.Kids.length:Nat):Int)<=9223372036854775807 then gI R97_1 F a1 a2 k23 ((((a1.Kids.length:Nat):Int):Int).toNat) 0 a3 else none)
def qs:Nat->aV->B8->(List aU)->Option (List aU)
 |0,_,_,_=>none
 |F+1,a1,a2,a3=>o9 (qs F) F a1 a2 a3
def mf(F:Nat)(a1:aV)(a2:B8)(k22:(List aU)->Option (List aU)):Nat->Int->(List aU)->Option (List aU)
 |0,n26,l27=>k22 l27
 |tl1+1,n26,l27=>(ct a1.Kids n26).bind fun x29=>(er ar x29).bind fun y31=>(qs F y31 a2 l27).bind fun y33=>mf F a1 a2 k22 tl1 (n26+1) y33
def Oe(F:Nat)(a1:aV)(a2:B8):Option (List aU):=
 if (a1.Name==a2)=true then if (([]:List aU)++([tY ar a1]:List aU)).length*88<=140737488355328 then some (([]:List aU)++([tY ar a1]:List aU)) else none
 else jn (fun(l23:List aU)=>some l23) (fun k22=>if ((a1.Kids.length:Nat):Int)<=9223372036854775807 then mf F a1 a2 k22 ((((a1.Kids.length:Nat):Int):Int).toNat) 0 ([]:List aU) else none)
def me(F:Nat)(a1:(List aU))(k2:Bool->Bool->Bool->Option (Bool×Bool×Bool)):Nat->Int->Bool->Bool->Bool->Option (Bool×Bool×Bool)
  |0,n13,b10,b11,b12=>k2 b10 b11 b12
  |tl1+1,n13,b10,b11,b12=>jn (fun(b16:Bool) (b17:Bool) (b18:Bool)=>me F a1 k2 tl1 (n13+1) b16 b17 b18) (fun k15=>if b10=true then if b11=true then if b12=true then k15 true true true
 else (ct a1 n13).bind fun x22=>(er ar x22).bind fun y24=>k15 true true (y24.Kind==4)
 else (ct a1 n13).bind fun x26=>(er ar x26).bind fun y28=>if b12=true then k15 true (y28.Kind==5) true
 else (ct a1 n13).bind fun x31=>(er ar x31).bind fun y33=>k15 true (y28.Kind==5) (y33.Kind==4)
 else (ct a1 n13).bind fun x35=>(er ar x35).bind fun y37=>if (y37.Kind==2)=true then if b11=true then if b12=true then k15 true true true
 else (ct a1 n13).bind fun x42=>(er ar x42).bind fun y44=>k15 true true (y44.Kind==4)
 else (ct a1 n13).bind fun x46=>(er ar x46).bind fun y48=>if b12=true then k15 true (y48.Kind==5) true
 else (ct a1 n13).bind fun x51=>(er ar x51).bind fun y53=>k15 true (y48.Kind==5) (y53.Kind==4)
 else (ct a1 n13).bind fun x55=>(er ar x55).bind fun y57=>if b11=true then if b12=true then k15 (y57.Kind==3) true true
 else (ct a1 n13).bind fun x61=>(er ar x61).bind fun y63=>k15 (y57.Kind==3) true (y63.Kind==4)
 else (ct a1 n13).bind fun x65=>(er ar x65).bind fun y67=>if b12=true then k15 (y57.Kind==3) (y67.Kind==5) true
 else (ct a1 n13).bind fun x70=>(er ar x70).bind fun y72=>k15 (y57.Kind==3) (y67.Kind==5) (y72.Kind==4))
def Od(F:Nat)(a1:(List aU)):Option (Bool×Bool×Bool):=
 jn (fun(b3:Bool) (b4:Bool) (b5:Bool)=>some (b3,b4,b5)) (fun k2=>me F a1 k2 ((((a1.length:Nat):Int):Int).toNat) 0 false false false)
def Ma(F:Nat)(a1:(List B8))(a2:B8):Option Bool:=
 (zw F a1 a2).bind fun y3=>some (y3.2)
def gx(F:Nat)(a2:(List B8))(x10:B8)(k16:(List B8)->Option (B8×Bool)):Nat->Int->(List B8)->Option (B8×Bool)
 |0,_,_=>none
 |n+1,n20,l21=>if (decide (n20<=126))=true then if (decide ((x10.length:Int)<1000))=true then if x10.length+(([n20]:List Int).map fun n=>UInt8.ofNat n.toNat).length<=9223372036854775807 then (Ma F a2 (x10++(([n20]:List Int).map fun n=>UInt8.ofNat n.toNat))).bind fun y25=>jn (fun(l28:List B8)=>gx F a2 x10 k16 n (IntKind.wrap .u8 (n20+1)) l28) (fun k27=>if (!y25)=true then if (l21++([(x10++(([n20]:List Int).map fun n=>UInt8.ofNat n.toNat))]:List B8)).length*16<=140737488355328 then k27 (l21++([(x10++(([n20]:List Int).map fun n=>UInt8.ofNat n.toNat))]:List B8)) else none
 else k27 l21) else none
 else k16 l21
 else k16 l21
def ie(F:Nat)(a2:(List B8))(a3:(List B8))(k4:Option (B8×Bool)):Nat->(List B8)->Option (B8×Bool)
 |0,_=>none
 |n+1,l6=>if (decide (((l6.length:Nat):Int)>0))=true then jn (fun(l9:List B8)=>ie F a2 a3 k4 n l9) (fun k8=>(ct l6 0).bind fun x10=>if 1<=l6.length then (Ma F a3 x10).bind fun y13=>if (!y13)=true then some (x10,true)
 else jn (fun(l17:List B8)=>k8 l17) (fun k16=>gx F a2 x10 k16 F 32 (l6.drop 1)) else none)
 else k4
def A6(F:Nat)(a1:B8)(a2:(List B8))(a3:(List B8)):Option (B8×Bool):=
 jn (some (([]:B8),false)) (fun k4=>ie F a2 a3 k4 F ([a1]:List B8))
def ii(F:Nat)(l3:List B8)(l4:List B8)(k57:(List B8)->Option (List B8)):List B8->(List B8)->Option (List B8)
  |[],l62=>k57 l62
  |x64::tl3,l62=>(A6 F x64 l4 l3).bind fun y66=>jn (fun(l69:List B8)=>ii F l3 l4 k57 tl3 l69) (fun k68=>if (y66.2)=true then if (l62++([(y66.1)]:List B8)).length*16<=140737488355328 then k68 (l62++([(y66.1)]:List B8)) else none
 else k68 l62)
def kL(F:Nat)(a1:(List aU))(n10:Int)(k15:(List B8)->(List B8)->Option (List B8)):Nat->(List B8)->(List B8)->Int->Option (List B8)
 |0,_,_,_=>none
 |n+1,l21,l22,n23=>(ct a1 n10).bind fun x24=>(er ar x24).bind fun y26=>if (decide (n23<((y26.Texts.length:Nat):Int)))=true then (ct a1 n10).bind fun x29=>(er ar x29).bind fun y31=>jn (fun(l34:List B8) (l35:List B8)=>kL F a1 n10 k15 n l34 l35 (bE (n23+1))) (fun k33=>if (y31.Kind==2)=true then (ct a1 n10).bind fun x37=>(er ar x37).bind fun y39=>(ct y39.Texts n23).bind fun x41=>(xv F l21 x41).bind fun y43=>k33 y43 l22
 else (ct a1 n10).bind fun x45=>(er ar x45).bind fun y47=>(ct y47.Texts n23).bind fun x49=>(xv F l22 x49).bind fun y51=>k33 l21 y51)
 else k15 l21 l22
def ij(F:Nat)(a1:(List aU))(k2:(List B8)->(List B8)->Option (List B8)):Nat->Int->(List B8)->(List B8)->Option (List B8)
 |0,n10,l8,l9=>k2 l8 l9
 |tl1+1,n10,l8,l9=>jn (fun(l13:List B8) (l14:List B8)=>ij F a1 k2 tl1 (n10+1) l13 l14) (fun k12=>jn (fun(l16:List B8) (l17:List B8)=>k12 l16 l17) (fun k15=>kL F a1 n10 k15 F l8 l9 0))
def A7(F:Nat)(a1:(List aU)):Option (List B8):=
 jn (fun(l3:List B8) (l4:List B8)=>if l3.length*16<=140737488355328 then (xv F l4 ([]:B8)).bind fun y55=>jn (fun(l58:List B8)=>some l58) (fun k57=>ii F l3 l4 k57 y55 l3) else none) (fun k2=>ij F a1 k2 ((((a1.length:Nat):Int):Int).toNat) 0 ([]:List B8) ([]:List B8))
def jl(F:Nat)(a1:(List Int))(a2:Int)(k3:(List Int)->Option (List Int)):List Int->Int->(List Int)->Option (List Int)
  |[],n7,l8=>k3 l8
  |x10::tl1,n7,l8=>if (x10==a2)=true then some a1
 else (ct a1 n7).bind fun x13=>if (decide (x13>a2))=true then if (l8++([a2]:List Int)).length*8<=140737488355328 then if 0<=n7/\n7.toNat<=a1.length then if ((l8++([a2]:List Int))++(a1.drop n7.toNat)).length*8<=140737488355328 then some ((l8++([a2]:List Int))++(a1.drop n7.toNat)) else none else none else none
 else (ct a1 n7).bind fun x19=>if (l8++([x19]:List Int)).length*8<=140737488355328 then jl F a1 a2 k3 tl1 (n7+1) (l8++([x19]:List Int)) else none
def Hh(F:Nat)(a1:(List Int))(a2:Int):Option (List Int):=
 jn (fun(l4:List Int)=>if (l4++([a2]:List Int)).length*8<=140737488355328 then some (l4++([a2]:List Int)) else none) (fun k3=>jl F a1 a2 k3 a1 0 ([]:List Int))
def gy(F:Nat)(l3:List Int)(k24:(List Int)->Option (List Int)):List Int->Int->(List Int)->Option (List Int)
  |[],n28,l29=>k24 l29
  |x33::tl2,n28,l29=>jn (fun(l32:List Int)=>gy F l3 k24 tl2 (n28+1) l32) (fun k31=>if (decide ((bE (x33 - 1))>=(-1000000000000)))=true then if (n28==0)=true then if (l29++([(bE (x33 - 1))]:List Int)).length*8<=140737488355328 then (ct l3 n28).bind fun x38=>if ((l29++([(bE (x33 - 1))]:List Int))++([x38]:List Int)).length*8<=140737488355328 then k31 ((l29++([(bE (x33 - 1))]:List Int))++([x38]:List Int)) else none else none
 else (ct l3 (bE (n28 - 1))).bind fun x41=>jn (fun(l44:List Int)=>(ct l3 n28).bind fun x47=>if (l44++([x47]:List Int)).length*8<=140737488355328 then k31 (l44++([x47]:List Int)) else none) (fun k43=>if (decide (x41<(bE (x33 - 1))))=true then if (l29++([(bE (x33 - 1))]:List Int)).length*8<=140737488355328 then k43 (l29++([(bE (x33 - 1))]:List Int)) else none
 else k43 l29)
 else (ct l3 n28).bind fun x50=>if (l29++([x50]:List Int)).length*8<=140737488355328 then k31 (l29++([x50]:List Int)) else none)
def jo(F:Nat)(a1:(List aU))(k2:(List Int)->Option (List Int)):List aU->Int->(List Int)->Option (List Int)
  |[],n7,l6=>k2 l6
  |x9::tl1,n7,l6=>(er ar x9).bind fun y11=>jn (fun(l14:List Int)=>jo F a1 k2 tl1 (n7+1) l14) (fun k13=>if (y11.Kind==5)=true then (ct a1 n7).bind fun x16=>(er ar x16).bind fun y18=>(Hh F l6 y18.N).bind fun y20=>k13 y20
 else k13 l6)
def xr(F:Nat)(a1:(List aU)):Option (List Int):=
 jn (fun(l3:List Int)=>if (((l3.length:Nat):Int)==0)=true then some ([0]:List Int)
 else jn (fun(l25:List Int)=>(ct l3 (bE (((l3.length:Nat):Int) - 1))).bind fun x54=>jn (fun(l57:List Int)=>some l57) (fun k56=>if (decide ((bE (x54+1))<=1000000000000))=true then if (l25++([(bE (x54+1))]:List Int)).length*8<=140737488355328 then k56 (l25++([(bE (x54+1))]:List Int)) else none
 else k56 l25)) (fun k24=>gy F l3 k24 l3 0 ([]:List Int))) (fun k2=>jo F a1 k2 a1 0 ([]:List Int))
def jq(F:Nat)(y5:(List B8))(y8:(List Int))(n36:Int)(k41:(List ab)->Option (List ab)):Nat->Int->(List ab)->Option (List ab)
 |0,n45,l46=>k41 l46
 |tl4+1,n45,l46=>(ct y5 n36).bind fun x48=>(ct y8 n45).bind fun x50=>if (l46++([(ab.mk true true x48 x50)]:List ab)).length*32<=140737488355328 then jq F y5 y8 n36 k41 tl4 (n45+1) (l46++([(ab.mk true true x48 x50)]:List ab)) else none
def ip(F:Nat)(y5:(List B8))(y8:(List Int))(k32:(List ab)->Option (List ab)):Nat->Int->(List ab)->Option (List ab)
 |0,n36,l37=>k32 l37
 |tl3+1,n36,l37=>jn (fun(l40:List ab)=>ip F y5 y8 k32 tl3 (n36+1) l40) (fun k39=>jn (fun(l42:List ab)=>k39 l42) (fun k41=>jq F y5 y8 n36 k41 ((((y8.length:Nat):Int):Int).toNat) 0 l37))
def cY(F:Nat)(k21:(List ab)->Option (List ab)):List Int->(List ab)->Option (List ab)
 |[],l26=>k21 l26
 |x28::tl2,l26=>if (l26++([(ab.mk false true ([]:B8) x28)]:List ab)).length*32<=140737488355328 then cY F k21 tl2 (l26++([(ab.mk false true ([]:B8) x28)]:List ab)) else none
def cZ(F:Nat)(k10:(List ab)->Option (List ab)):List B8->(List ab)->Option (List ab)
 |[],l15=>k10 l15
 |x17::tl1,l15=>if (l15++([(ab.mk true false x17 0)]:List ab)).length*32<=140737488355328 then cZ F k10 tl1 (l15++([(ab.mk true false x17 0)]:List ab)) else none
def zx(F:Nat)(a1:(List aU)):Option (List ab):=
 (Od F a1).bind fun y2=>if (y2.1)=true then (A7 F a1).bind fun y5=>if (y2.2.1)=true then (xr F a1).bind fun y8=>jn (fun(l11:List ab)=>jn (fun(l22:List ab)=>jn (fun(l33:List ab)=>some l33) (fun k32=>ip F y5 y8 k32 ((((y5.length:Nat):Int):Int).toNat) 0 l22)) (fun k21=>cY F k21 y8 l11)) (fun k10=>cZ F k10 y5 ([(ab.mk false false ([]:B8) 0)]:List ab))
 else jn (fun(l56:List Int)=>jn (fun(l61:List ab)=>jn (fun(l72:List ab)=>some l72) (fun k71=>cY F k71 l56 l61)) (fun k60=>cZ F k60 y5 ([(ab.mk false false ([]:B8) 0)]:List ab))) (fun k55=>if (y2.2.2)=true then (xr F a1).bind fun y58=>k55 y58
 else k55 ([]:List Int))
 else jn (fun(l83:List B8)=>if (y2.2.1)=true then (xr F a1).bind fun y88=>jn (fun(l91:List ab)=>jn (fun(l102:List ab)=>some l102) (fun k101=>cY F k101 y88 l91)) (fun k90=>cZ F k90 l83 ([(ab.mk false false ([]:B8) 0)]:List ab))
 else jn (fun(l113:List Int)=>jn (fun(l118:List ab)=>jn (fun(l129:List ab)=>some l129) (fun k128=>cY F k128 l113 l118)) (fun k117=>cZ F k117 l83 ([(ab.mk false false ([]:B8) 0)]:List ab))) (fun k112=>if (y2.2.2)=true then (xr F a1).bind fun y115=>k112 y115
 else k112 ([]:List Int))) (fun k82=>if (y2.2.2)=true then (A7 F a1).bind fun y85=>k82 y85
 else k82 ([]:List B8))
def ml(F:Nat)(a1:aV)(k27:(List (List ab))->Option ((List B8)×(List (List ab))×(List Bool)×(List ab))):List B8->(List (List ab))->Option ((List B8)×(List (List ab))×(List Bool)×(List ab))
 |[],l32=>k27 l32
 |x34::tl1,l32=>(Oe F a1 x34).bind fun y36=>(zx F y36).bind fun y38=>if (l32++([y38]:List (List ab))).length*24<=140737488355328 then ml F a1 k27 tl1 (l32++([y38]:List (List ab))) else none
def Mc(F:Nat)(a1:aV):Option ((List B8)×(List (List ab))×(List Bool)×(List ab)):=
 (G9 F a1 ([]:List B8)).bind fun y25=>jn (fun(l28:List (List ab))=>if 0<=((y25.length:Nat):Int)/\((1:Nat):Int)*((y25.length:Nat):Int)<=140737488355328/\((y25.length:Nat):Int)<=140737488355328 then if 0<=((y25.length:Nat):Int)/\((32:Nat):Int)*((y25.length:Nat):Int)<=140737488355328/\((y25.length:Nat):Int)<=140737488355328 then some (y25,l28,(List.replicate (((y25.length:Nat):Int)).toNat (false:Bool)),(List.replicate (((y25.length:Nat):Int)).toNat ((ab.mk false false ([]:B8) 0):ab))) else none else none) (fun k27=>ml F a1 k27 y25 ([]:List (List ab)))
def Dt(F:Nat)(a1:Bool):Option Int:=
 if a1=true then some 1
 else some 0
def eN(R126:aQ->aV->Option Int)(F:Nat)(a1:aQ)(a2:aV)(y17:Int)(k19:Int->Option Int):Nat->Int->Int->Option Int
  |0,n24,n23=>k19 n23
  |tl1+1,n24,n23=>(ct a2.Kids n24).bind fun x26=>(er ar x26).bind fun y28=>(R126 a1 y28).bind fun y30=>if (y30==y17)=true then some y17
 else jn (fun(n34:Int)=>eN R126 F a1 a2 y17 k19 tl1 (n24+1) n34) (fun k33=>if (y30==2)=true then k33 2
 else k33 n23)
def tL(R126:aQ->aV->Option Int)(F:Nat)(a1:aQ)(a2:aV):Option Int:=
 jn ((zw F a1.names a2.Name).bind fun y37=>(ct a1.settled (y37.1)).bind fun x39=>if (!x39)=true then some 2
 else (ct a1.is (y37.1)).bind fun x42=>(A9 F a2 x42).bind fun y44=>(Dt F y44).bind fun y46=>some y46) (fun k3=>if (a2.Kind==1)=true then some 1
 else if (a2.Kind==6)=true then (ct a2.Kids 0).bind fun x6=>(er ar x6).bind fun y8=>(R126 a1 y8).bind fun y10=>if (y10==2)=true then some 2
 else some (bE (1 - y10))
 else jn (fun(b14:Bool)=>if b14=true then (Dt F (a2.Kind==8)).bind fun y17=>jn (fun(n20:Int)=>some n20) (fun k19=>if ((a2.Kids.length:Nat):Int)<=9223372036854775807 then eN R126 F a1 a2 y17 k19 ((((a2.Kids.length:Nat):Int):Int).toNat) 0 (bE (1 - y17)) else none)
 else k3) (fun k13=>if (a2.Kind==7)=true then k13 (a2.Kind==7)
 else k13 (a2.Kind==8)))
def uq:Nat->aQ->aV->Option Int
 |0,_,_=>none
 |F+1,a1,a2=>tL (uq F) F a1 a2
def jp(F:Nat)(a1:aQ)(k2:Int->Int->Option Bool):Nat->Int->Int->Int->Option Bool
  |0,n10,n8,n9=>k2 n8 n9
  |tl1+1,n10,n8,n9=>jn (fun(n13:Int) (n14:Int)=>jp F a1 k2 tl1 (n10+1) n13 n14) (fun k12=>(ct a1.settled n10).bind fun x15=>if x15=true then (ct a1.is n10).bind fun x18=>jn (fun(n21:Int)=>(ct a1.settled n10).bind fun x23=>if x23=true then (ct a1.is n10).bind fun x26=>jn (fun(n29:Int)=>k12 n21 n29) (fun k28=>if x26.isNumber=true then k28 (bE (n9+1))
 else k28 n9)
 else k12 n21 n9) (fun k20=>if x18.isText=true then k20 (bE (n8+1))
 else k20 n8)
 else (ct a1.settled n10).bind fun x31=>if x31=true then (ct a1.is n10).bind fun x34=>jn (fun(n37:Int)=>k12 n8 n37) (fun k36=>if x34.isNumber=true then k36 (bE (n9+1))
 else k36 n9)
 else k12 n8 n9)
def Ho(F:Nat)(a1:aQ):Option Bool:=
 jn (fun(n3:Int) (n4:Int)=>if (decide (n3<=30))=true then some (decide (n4<=30))
 else some false) (fun k2=>if ((a1.names.length:Nat):Int)<=9223372036854775807 then jp F a1 k2 ((((a1.names.length:Nat):Int):Int).toNat) 0 0 0 else none)
def gQ(R85:Int->Int->B8->(List B8)->Int->Int->(List aU)->(List B8)->(List (List ab))->(List Bool)->(List ab)->Option (Bool×(List Bool)×(List ab)))(F:Nat)(a2:Int)(a3:B8)(a4:(List B8))(a5:Int)(a6:Int)(a7:(List aU))(a8:(List B8))(a9:List (List ab))(n65:Int)(k73:(List Bool)->(List ab)->Option (Bool×(List Bool)×(List ab))):Nat->Int->(List Bool)->(List ab)->Option (Bool×(List Bool)×(List ab))
 |0,_,_,_=>none
 |n+1,n79,l80,l81=>(ct a9 n65).bind fun x82=>if (decide (n79<((x82.length:Nat):Int)))=true then (ct a9 n65).bind fun x85=>(ct x85 n79).bind fun x87=>(ct l81 n65).bind fun x89=>(R85 (bE (n65+1)) a2 a3 a4 a5 a6 a7 a8 a9 l80 (l81.set n65.toNat x87)).bind fun y91=>if (y91.2.2).length=l81.length then if (y91.1)=true then some (true,(y91.2.1),(y91.2.2))
 else gQ R85 F a2 a3 a4 a5 a6 a7 a8 a9 n65 k73 n (bE (n79+1)) (y91.2.1) (y91.2.2) else none
 else k73 l80 l81
def kG(F:Nat)(a10:List Bool)(k64:Int->Option (Bool×(List Bool)×(List ab))):Nat->Int->Option (Bool×(List Bool)×(List ab))
 |0,_=>none
 |n+1,n67=>(ct a10 n67).bind fun x68=>if x68=true then kG F a10 k64 n (bE (n67+1))
 else k64 n67
def tC(R85:Int->Int->B8->(List B8)->Int->Int->(List aU)->(List B8)->(List (List ab))->(List Bool)->(List ab)->Option (Bool×(List Bool)×(List ab)))(F:Nat)(a1:Int)(a2:Int)(a3:B8)(a4:(List B8))(a5:Int)(a6:Int)(a7:(List aU))(a8:(List B8))(a9:List (List ab))(a10:List Bool)(a11:List ab):Option (Bool×(List Bool)×(List ab)):=
 (uq F (aQ.mk (aV.mk a2 a3 a4 a5 a6 a7) a8 a9 a10 a11) (aV.mk a2 a3 a4 a5 a6 a7)).bind fun y57=>if (y57==0)=true then some (false,a10,a11)
 else (Ho F (aQ.mk (aV.mk a2 a3 a4 a5 a6 a7) a8 a9 a10 a11)).bind fun y60=>if (!y60)=true then some (false,a10,a11)
 else if (y57==1)=true then some (true,a10,a11)
 else jn (fun(n65:Int)=>(ct a10 n65).bind fun x71=>jn (fun(l74:List Bool) (l75:List ab)=>(ct l74 n65).bind fun x95=>(ct l75 n65).bind fun x97=>some (false,(l74.set n65.toNat false),(l75.set n65.toNat (ab.mk false false ([]:B8) 0)))) (fun k73=>gQ R85 F a2 a3 a4 a5 a6 a7 a8 a9 n65 k73 F 0 (a10.set n65.toNat true) a11)) (fun k64=>kG F a10 k64 F a1)
def zn:Nat->Int->Int->B8->(List B8)->Int->Int->(List aU)->(List B8)->(List (List ab))->(List Bool)->(List ab)->Option (Bool×(List Bool)×(List ab))
 |0,_,_,_,_,_,_,_,_,_,_,_=>none
 |F+1,a1,a2,a3,a4,a5,a6,a7,a8,a9,a10,a11=>tC (zn F) F a1 a2 a3 a4 a5 a6 a7 a8 a9 a10 a11
def jH(F:Nat)(a2:aZ)(a3:(List B8))(y16:((List B8)×(List (List ab))×(List Bool)×(List ab)))(k18:(List Bool)->(List ab)->Option Bool):Nat->Int->(List Bool)->(List ab)->Option Bool
  |0,n24,l25,l26=>k18 l25 l26
  |tl1+1,n24,l25,l26=>(ct (y16.1) n24).bind fun x28=>(Ma F a3 x28).bind fun y30=>jn (fun(l33:List Bool) (l34:List ab)=>jH F a2 a3 y16 k18 tl1 (n24+1) l33 l34) (fun k32=>if y30=true then (ct (y16.1) n24).bind fun x36=>(MJ F a2 x36).bind fun y38=>(ct l25 n24).bind fun x40=>(ct l26 n24).bind fun x42=>k32 (l25.set n24.toNat true) (l26.set n24.toNat y38)
 else k32 l25 l26)
def Oo(F:Nat)(a1:aV)(a2:aZ)(a3:(List B8)):Option Bool:=
 (I9 F a1 a2).bind fun y4=>jn (fun(n7:Int) (s8:B8) (l9:List B8) (n10:Int) (n11:Int) (l12:List aU)=>(Mc F (aV.mk n7 s8 l9 n10 n11 l12)).bind fun y16=>jn (fun(l19:List Bool) (l20:List ab)=>(zn F 0 n7 s8 l9 n10 n11 l12 (y16.1) (y16.2.1) l19 l20).bind fun y45=>some (!(y45.1))) (fun k18=>if (((y16.1).length:Nat):Int)<=9223372036854775807 then jH F a2 a3 y16 k18 (((((y16.1).length:Nat):Int):Int).toNat) 0 (y16.2.2.1) (y16.2.2.2) else none)) (fun k6=>if y4=true then (OM F a1).bind fun y14=>k6 y14.Kind y14.Name y14.Texts y14.Op y14.N y14.Kids
 else k6 a1.Kind a1.Name a1.Texts a1.Op a1.N a1.Kids)
def qt(F:Nat)(a1:aV)(a2:aZ)(y4:((List B8)×Bool×Int))(k23:Option Bool):Nat->Int->Option Bool
  |0,n25=>k23
  |tl1+1,n25=>(MP F (y4.1)).bind fun y27=>(OQ F n25 (bE (n25+1)) y27).bind fun y29=>(Oo F a1 a2 y29).bind fun y31=>if y31=true then some false
 else qt F a1 a2 y4 k23 tl1 (n25+1)
def M8(F:Nat)(a1:aV)(a2:aZ)(a3:aZ):Option Bool:=
 (Jq F a1 a2).bind fun y4=>if ((y4.2.2) != 0)=true then (Ou F).bind fun y7=>some y7
 else (MQ F a1 a2).bind fun y9=>if ((y9.2) != 0)=true then some false
 else if ((y9.1) != (y4.2.1))=true then some false
 else (Ot F a2 a3 (y4.1)).bind fun y13=>(Oq F y13).bind fun y15=>jn (jn ((Ou F).bind fun y35=>some y35) (fun k23=>qt F a1 a2 y4 k23 (((((y4.1).length:Nat):Int):Int).toNat) 0)) (fun k17=>if (y15==0)=true then (MQ F a1 y13).bind fun y19=>if ((y19.2) != 0)=true then some false
 else if ((y19.1) != (y4.2.1))=true then some false
 else k17
 else k17)
end
end Go.Proofs.YtelmfadihfcgnaaGreatDoor
