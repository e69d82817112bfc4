/- Part of the proof. -/
import Derived.Test.YtelmfadihfcgnaaGreatDoorGD4T
set_option linter.unusedSimpArgs false
set_option linter.unusedVariables false
namespace Go.Proofs.YtelmfadihfcgnaaGreatDoor
open Go Go.Pv
set_option maxRecDepth 100000
noncomputable section
def mb(R86:aC->Int->Option (Int×Int))(F:Nat)(a2:Int)(k4:Int->Int->Option (Int×Int)):List aM->Int->Int->Option (Int×Int)
 |[],n10,n11=>k4 n10 n11
 |x14::tl1,n10,n11=>(dD ah x14).bind fun y16=>(R86 y16 (bh (a2+1))).bind fun y18=>mb R86 F a2 k4 tl1 (if 61<(bh (n10+(y18.1))) then 61 else (bh (n10+(y18.1)))) (if (y18.2)>n11 then (y18.2) else n11)
def yS(R86:aC->Int->Option (Int×Int))(F:Nat)(a1:aC)(a2:Int):Option (Int×Int):=
 if (decide (a2>12))=true then some (1,a2)
 else jn (fun(n5:Int) (n6:Int)=>some (n5,n6)) (fun k4=>mb R86 F a2 k4 a1.Kids 1 a2)
def JU:Nat->aC->Int->Option (Int×Int)
 |0,_,_=>none
 |F+1,a1,a2=>yS (JU F) F a1 a2
def Dd(F:Nat):Option (Nat->bH):=
 some (sN (bH.mk false false false 0) [(bH.mk false false false 0),(bH.mk false false false 0),(bH.mk true true false 0),(bH.mk true true false 0),(bH.mk true false false 0),(bH.mk true false true 0),(bH.mk false false false 1),(bH.mk false false false (-1)),(bH.mk false false false (-1))])
def GZ(F:Nat)(a1:aC):Option Bool:=
 (Dd F).bind fun y2=>if 0<=a1.Kind/\a1.Kind.toNat<9 then if (!(y2 a1.Kind.toNat).name)=true then if (!(a1.Name==([]:B8)))=true then some false
 else if (!(y2 a1.Kind.toNat).texts)=true then if (decide (((a1.Texts.length:Nat):Int)>0))=true then some false
 else if (!(y2 a1.Kind.toNat).number)=true then if (a1.Op != 0)=true then some false
 else if (a1.N != 0)=true then some false
 else if (decide ((y2 a1.Kind.toNat).kids<0))=true then some (decide (((a1.Kids.length:Nat):Int)>=2))
 else some (((a1.Kids.length:Nat):Int)==(y2 a1.Kind.toNat).kids)
 else if (decide ((y2 a1.Kind.toNat).kids<0))=true then some (decide (((a1.Kids.length:Nat):Int)>=2))
 else some (((a1.Kids.length:Nat):Int)==(y2 a1.Kind.toNat).kids)
 else if (!(y2 a1.Kind.toNat).number)=true then if (a1.Op != 0)=true then some false
 else if (a1.N != 0)=true then some false
 else if (decide ((y2 a1.Kind.toNat).kids<0))=true then some (decide (((a1.Kids.length:Nat):Int)>=2))
 else some (((a1.Kids.length:Nat):Int)==(y2 a1.Kind.toNat).kids)
 else if (decide ((y2 a1.Kind.toNat).kids<0))=true then some (decide (((a1.Kids.length:Nat):Int)>=2))
 else some (((a1.Kids.length:Nat):Int)==(y2 a1.Kind.toNat).kids)
 else if (!(y2 a1.Kind.toNat).texts)=true then if (decide (((a1.Texts.length:Nat):Int)>0))=true then some false
 else if (!(y2 a1.Kind.toNat).number)=true then if (a1.Op != 0)=true then some false
 else if (a1.N != 0)=true then some false
 else if (decide ((y2 a1.Kind.toNat).kids<0))=true then some (decide (((a1.Kids.length:Nat):Int)>=2))
 else some (((a1.Kids.length:Nat):Int)==(y2 a1.Kind.toNat).kids)
 else if (decide ((y2 a1.Kind.toNat).kids<0))=true then some (decide (((a1.Kids.length:Nat):Int)>=2))
 else some (((a1.Kids.length:Nat):Int)==(y2 a1.Kind.toNat).kids)
 else if (!(y2 a1.Kind.toNat).number)=true then if (a1.Op != 0)=true then some false
 else if (a1.N != 0)=true then some false
 else if (decide ((y2 a1.Kind.toNat).kids<0))=true then some (decide (((a1.Kids.length:Nat):Int)>=2))
 else some (((a1.Kids.length:Nat):Int)==(y2 a1.Kind.toNat).kids)
 else if (decide ((y2 a1.Kind.toNat).kids<0))=true then some (decide (((a1.Kids.length:Nat):Int)>=2))
 else some (((a1.Kids.length:Nat):Int)==(y2 a1.Kind.toNat).kids) else none
def NK(F:Nat)(a1:B8):Option Bool:=
 jn (fun(b3:Bool)=>if b3=true then some true
 else some false) (fun k2=>if (a1==([114,117,108,101]:B8))=true then k2 (a1==([114,117,108,101]:B8))
 else if (a1==([97,98,111,117,116]:B8))=true then k2 (a1==([97,98,111,117,116]:B8))
 else if (a1==([119,104,101,110]:B8))=true then k2 (a1==([119,104,101,110]:B8))
 else if (a1==([119,97,105,118,101]:B8))=true then k2 (a1==([119,97,105,118,101]:B8))
 else if (a1==([102,111,114]:B8))=true then k2 (a1==([102,111,114]:B8))
 else if (a1==([102,114,111,109]:B8))=true then k2 (a1==([102,114,111,109]:B8))
 else if (a1==([116,111]:B8))=true then k2 (a1==([116,111]:B8))
 else if (a1==([98,121]:B8))=true then k2 (a1==([98,121]:B8))
 else if (a1==([97,115]:B8))=true then k2 (a1==([97,115]:B8))
 else if (a1==([112,97,115,115]:B8))=true then k2 (a1==([112,97,115,115]:B8))
 else if (a1==([110,111,116,101]:B8))=true then k2 (a1==([110,111,116,101]:B8))
 else if (a1==([119,97,114,110]:B8))=true then k2 (a1==([119,97,114,110]:B8))
 else if (a1==([100,101,110,121]:B8))=true then k2 (a1==([100,101,110,121]:B8))
 else if (a1==([111,114]:B8))=true then k2 (a1==([111,114]:B8))
 else if (a1==([97,110,100]:B8))=true then k2 (a1==([97,110,100]:B8))
 else if (a1==([116,114,117,101]:B8))=true then k2 (a1==([116,114,117,101]:B8))
 else if (a1==([105,115]:B8))=true then k2 (a1==([105,115]:B8))
 else if (a1==([98,101,103,105,110,115]:B8))=true then k2 (a1==([98,101,103,105,110,115]:B8))
 else if (a1==([104,97,115]:B8))=true then k2 (a1==([104,97,115]:B8))
 else k2 (a1==([110,111,116]:B8)))
def kC(F:Nat)(a1:B8)(k2:Option Bool):Nat->Int->Option Bool
  |0,n4=>k2
  |tl1+1,n4=>jn (kC F a1 k2 tl1 (n4+1)) (fun k6=>(cn a1 n4).bind fun c7=>if (decide ((c7.toNat:Int)>=97))=true then if (decide ((c7.toNat:Int)<=122))=true then k6
 else if (decide (n4>0))=true then if (decide ((c7.toNat:Int)>=48))=true then if (decide ((c7.toNat:Int)<=57))=true then k6
 else if (!((c7.toNat:Int)==45))=true then some false
 else k6
 else if (!((c7.toNat:Int)==45))=true then some false
 else k6
 else some false
 else if (decide (n4>0))=true then if (decide ((c7.toNat:Int)>=48))=true then if (decide ((c7.toNat:Int)<=57))=true then k6
 else if (!((c7.toNat:Int)==45))=true then some false
 else k6
 else if (!((c7.toNat:Int)==45))=true then some false
 else k6
 else some false)
def JY(F:Nat)(a1:B8):Option Bool:=
 jn (if (!(a1==([]:B8)))=true then if (decide ((a1.length:Int)<=40))=true then (NK F a1).bind fun y24=>some (!y24)
 else some false
 else some false) (fun k2=>if (a1.length:Int)<=9223372036854775807 then kC F a1 k2 (((a1.length:Int):Int).toNat) 0 else none)
def kJ(F:Nat)(a1:B8)(k2:Option Bool):Nat->Int->Option Bool
  |0,n4=>k2
  |tl1+1,n4=>(cn a1 n4).bind fun c6=>if (decide ((c6.toNat:Int)<32))=true then some false
 else (cn a1 n4).bind fun c9=>if (decide ((c9.toNat:Int)>126))=true then some false
 else kJ F a1 k2 tl1 (n4+1)
def AU(F:Nat)(a1:B8):Option Bool:=
 jn (some (decide ((a1.length:Int)<=1000))) (fun k2=>if (a1.length:Int)<=9223372036854775807 then kJ F a1 k2 (((a1.length:Int):Int).toNat) 0 else none)
def kG(F:Nat)(a1:(List B8))(k4:Option Int):List B8->Int->Option Int
  |[],n6=>k4
  |x8::tl1,n6=>(AU F x8).bind fun y10=>jn (kG F a1 k4 tl1 (n6+1)) (fun k12=>if (!y10)=true then some 2
 else if (decide (n6>0))=true then (cn a1 (bh (n6 - 1))).bind fun x15=>if (Op.bytesLess x8 x15||x8==x15)=true then some 10
 else k12
 else k12)
def GY(F:Nat)(a1:(List B8)):Option Int:=
 if (((a1.length:Nat):Int)==0)=true then some 13
 else if (decide (((a1.length:Nat):Int)>50))=true then some 3
 else jn (some 0) (fun k4=>kG F a1 k4 a1 0)
def tr(F:Nat)(a1:Int):Option Bool:=
 if (decide (a1>=(-1000000000000)))=true then some (decide (a1<=1000000000000))
 else some false
def jt(R87:aC->Option Int)(F:Nat)(k27:Option Int):List aM->Option Int
  |[]=>k27
  |x31::tl1=>(dD ah x31).bind fun y33=>(R87 y33).bind fun y35=>if (y35 != 0)=true then some y35
 else jt R87 F k27 tl1
def qe(R87:aC->Option Int)(F:Nat)(a1:aC):Option Int:=
 if (decide (a1.Kind<1))=true then some 7
 else if (decide (a1.Kind>8))=true then some 7
 else (Dd F).bind fun y4=>if 0<=a1.Kind/\a1.Kind.toNat<9 then (GZ F a1).bind fun y7=>jn (jn (jn (jn (some 0) (fun k27=>jt R87 F k27 a1.Kids)) (fun k20=>if (y4 a1.Kind.toNat).number=true then if (decide (a1.Op<1))=true then some 7
 else if (decide (a1.Op>5))=true then some 7
 else (tr F a1.N).bind fun y24=>if (!y24)=true then some 9
 else k20
 else k20)) (fun k15=>if (y4 a1.Kind.toNat).texts=true then (GY F a1.Texts).bind fun y17=>if (y17 != 0)=true then some y17
 else k15
 else k15)) (fun k9=>if (!y7)=true then some 2
 else if (y4 a1.Kind.toNat).name=true then (JY F a1.Name).bind fun y12=>if (!y12)=true then some 8
 else k9
 else k9) else none
def JT:Nat->aC->Option Int
 |0,_=>none
 |F+1,a1=>qe (JT F) F a1
def NS(F:Nat)(a1:aC):Option Int:=
 (JU F a1 1).bind fun y2=>if (decide ((y2.1)>60))=true then some 3
 else if (decide ((y2.2)>12))=true then some 3
 else (JT F a1).bind fun y6=>some y6
def mi(F:Nat)(a1:bC)(k28:Option Int):List cp->Int->Option Int
  |[],n30=>k28
  |x32::tl2,n30=>(JY F x32.Name).bind fun y34=>jn (mi F a1 k28 tl2 (n30+1)) (fun k36=>if (!y34)=true then some 8
 else (tr F x32.N).bind fun y38=>if (!y38)=true then some 9
 else if (decide (n30>0))=true then (cn a1.Numbers (bh (n30 - 1))).bind fun x42=>if (Op.bytesLess x32.Name x42.Name||x32.Name==x42.Name)=true then some 10
 else k36
 else k36)
def mj(F:Nat)(a1:bC)(k9:Option Int):List dB->Int->Option Int
  |[],n11=>k9
  |x13::tl1,n11=>(JY F x13.Name).bind fun y15=>jn (mj F a1 k9 tl1 (n11+1)) (fun k17=>if (!y15)=true then some 8
 else (AU F x13.Value).bind fun y19=>if (!y19)=true then some 2
 else if (decide (n11>0))=true then (cn a1.Texts (bh (n11 - 1))).bind fun x23=>if (Op.bytesLess x13.Name x23.Name||x13.Name==x23.Name)=true then some 10
 else k17
 else k17)
def NO(F:Nat)(a1:bC):Option Int:=
 (JY F a1.Kind).bind fun y2=>if (!y2)=true then some 8
 else (AU F a1.Subject).bind fun y5=>if (!y5)=true then some 2
 else if (decide (((a1.Texts.length:Nat):Int)>30))=true then some 3
 else jn (if (decide (((a1.Numbers.length:Nat):Int)>30))=true then some 3
 else jn (some 0) (fun k28=>mi F a1 k28 a1.Numbers 0)) (fun k9=>mj F a1 k9 a1.Texts 0)
def ml(R32:aC->Option KV)(F:Nat)(k2:(List KV)->Option KV):List aM->(List KV)->Option KV
 |[],l7=>k2 l7
 |x9::tl1,l7=>(dD ah x9).bind fun y11=>(R32 y11).bind fun y13=>if (l7++([y13]:List KV)).length*16<=140737488355328 then ml R32 F k2 tl1 (l7++([y13]:List KV)) else none
def yX(R32:aC->Option KV)(F:Nat)(a1:aC):Option KV:=
 jn (fun(l3:List KV)=>if (a1.Kind==2)=true then some (uA 147 bK (cT.mk a1.Name a1.Texts))
 else if (a1.Kind==3)=true then some (uA 148 bt (ct.mk a1.Name a1.Texts))
 else if (a1.Kind==4)=true then some (uA 150 bM (cO.mk a1.Name))
 else if (a1.Kind==5)=true then some (uA 152 br (cr.mk a1.Name a1.Op a1.N))
 else if (a1.Kind==6)=true then (cn l3 0).bind fun x22=>some (uA 154 bU (cN.mk x22))
 else if (a1.Kind==7)=true then some (uA 156 bO (cQ.mk l3))
 else if (a1.Kind==8)=true then some (uA 157 bN (cP.mk l3))
 else some (uA 159 bZ cH.mk)) (fun k2=>ml R32 F k2 a1.Kids ([]:List KV))
def JX:Nat->aC->Option KV
 |0,_=>none
 |F+1,a1=>yX (JX F) F a1
def GI(F:Nat)(a1:B8)(a2:List (B8×(Option ae))):Option (List (B8×(Option ae))×ae):=match aH a2 a1 with
 |none=>some (bI a2 a1 (some (ae.mk [] [] [] false false false 2)),(ae.mk [] [] [] false false false 2))
 |some none=>none
 |some (some s)=>some (a2,s)
def gN(R33:KV->(List (B8×(Option ae)))->Option (List (B8×(Option ae))))(F:Nat)(k93:(List (B8×(Option ae)))->Option (List (B8×(Option ae)))):List KV->(List (B8×(Option ae)))->Option (List (B8×(Option ae)))
 |[],m98=>k93 m98
 |x100::tl1,m98=>(R33 x100 m98).bind fun y102=>gN R33 F k93 tl1 y102
def kU(R33:KV->(List (B8×(Option ae)))->Option (List (B8×(Option ae))))(F:Nat)(a1:KV)(a2:List (B8×(Option ae))):Option (List (B8×(Option ae))):=
 if Nat.beq a1.t 147=true then (gH bK 147 a1).bind fun y63=>(GI F y63.name a2).bind fun y65=>if ((y65.2).is++y63.texts).length*16<=140737488355328 then some (bI (y65.1) y63.name (some (ae.mk ((y65.2).is++y63.texts) (y65.2).begins (y65.2).numbers true (y65.2).asNo (y65.2).has (bh ((y65.2).weight+((y63.texts.length:Nat):Int)))))) else none
 else if Nat.beq a1.t 148=true then (gH bt 148 a1).bind fun y69=>(GI F y69.name a2).bind fun y71=>if ((y71.2).begins++y69.texts).length*16<=140737488355328 then some (bI (y71.1) y69.name (some (ae.mk (y71.2).is ((y71.2).begins++y69.texts) (y71.2).numbers true (y71.2).asNo (y71.2).has (bh ((y71.2).weight+(bh (2*((y69.texts.length:Nat):Int)))))))) else none
 else if Nat.beq a1.t 150=true then (gH bM 150 a1).bind fun y75=>(GI F y75.name a2).bind fun y77=>some (bI (y77.1) y75.name (some (ae.mk (y77.2).is (y77.2).begins (y77.2).numbers (y77.2).asText (y77.2).asNo true (y77.2).weight)))
 else if Nat.beq a1.t 152=true then (gH br 152 a1).bind fun y80=>(GI F y80.name a2).bind fun y82=>if ((y82.2).numbers++([y80.n]:List Int)).length*8<=140737488355328 then some (bI (y82.1) y80.name (some (ae.mk (y82.2).is (y82.2).begins ((y82.2).numbers++([y80.n]:List Int)) (y82.2).asText true (y82.2).has (bh ((y82.2).weight+2))))) else none
 else if Nat.beq a1.t 154=true then (gH bU 154 a1).bind fun y86=>(R33 y86.kid a2).bind fun y88=>some y88
 else if Nat.beq a1.t 156=true then (gH bO 156 a1).bind fun y91=>jn (fun(m94:List (B8×(Option ae)))=>some m94) (fun k93=>gN R33 F k93 y91.kids a2)
 else if Nat.beq a1.t 157=true then (gH bN 157 a1).bind fun y106=>jn (fun(m109:List (B8×(Option ae)))=>some m109) (fun k108=>gN R33 F k108 y106.kids a2)
 else some a2
def GP:Nat->KV->(List (B8×(Option ae)))->Option (List (B8×(Option ae)))
 |0,_,_=>none
 |F+1,a1,a2=>kU (GP F) F a1 a2
def fM(F:Nat):List (B8×(Option ae))->Int->Option Bool
  |[],n4=>some true
  |e6::l7,n4=>if (1<=n4/\n4<=200000)/\((e6::l7).all fun p=>match p.2 with|some s=>decide (1<=s.weight/\s.weight<=1000000000000)|none=>false)=true then (e6.2).bind fun x9=>if x9.has=true then if (decide ((bh (n4*(bh (x9.weight+1))))>200000))=true then some false
 else fM F l7 (bh (n4*(bh (x9.weight+1))))
 else if x9.asText=true then jn (fun(n15:Int)=>if (decide ((bh (n4*n15))>200000))=true then some false
 else fM F l7 (bh (n4*n15))) (fun k14=>if x9.asNo=true then k14 (bh (x9.weight+1))
 else k14 x9.weight)
 else if (decide ((bh (n4*x9.weight))>200000))=true then some false
 else fM F l7 (bh (n4*x9.weight)) else none
def NR(F:Nat)(a1:(List (B8×(Option ae)))):Option Bool:=
 fM F a1 1
def nO(F:Nat)(k12:(List (B8×aa))->Option aq):List cp->(List (B8×aa))->Option aq
 |[],m17=>k12 m17
 |x19::tl2,m17=>nO F k12 tl2 (bI m17 x19.Name (aa.mk ((aH m17 x19.Name).getD (aa.mk false false ([]:B8) 0)).hasText true ((aH m17 x19.Name).getD (aa.mk false false ([]:B8) 0)).text x19.N))
def nP(F:Nat)(k2:(List (B8×aa))->Option aq):List dB->(List (B8×aa))->Option aq
 |[],m7=>k2 m7
 |x9::tl1,m7=>nP F k2 tl1 (bI m7 x9.Name (aa.mk true ((aH m7 x9.Name).getD (aa.mk false false ([]:B8) 0)).hasNumber x9.Value ((aH m7 x9.Name).getD (aa.mk false false ([]:B8) 0)).number))
def NN(F:Nat)(a1:bC):Option aq:=
 jn (fun(m3:List (B8×aa))=>jn (fun(m13:List (B8×aa))=>some (aq.mk m13 (none:Option (List (B8×Bool))))) (fun k12=>nO F k12 a1.Numbers m3)) (fun k2=>nP F k2 a1.Texts ([]:List (B8×aa)))
def yZ(F:Nat)(a1:aq)(a2:B8):Option (aa×Bool):=
 if a1.known.isNone=true then some (((aH a1.by_ a2).getD (aa.mk false false ([]:B8) 0)),true)
 else some (((aH a1.by_ a2).getD (aa.mk false false ([]:B8) 0)),((aH (a1.known.getD []) a2).getD false))
def kI(F:Nat)(a2:B8)(k3:Option Int):List B8->Int->Option Int
  |[],n5=>k3
  |x7::tl1,n5=>if (a2==x7)=true then some n5
 else kI F a2 k3 tl1 (n5+1)
def Ji(F:Nat)(a1:(List B8))(a2:B8):Option Int:=
 jn (some (-1)) (fun k3=>kI F a2 k3 a1 0)
def JV(F:Nat)(a1:(List B8))(a2:B8):Option Bool:=
 (Ji F a1 a2).bind fun y3=>some (decide (y3>=0))
def GL(F:Nat)(a1:Bool):Option Int:=
 if a1=true then some 1
 else some 2
def AN(F:Nat)(a1:cT)(a2:aq):Option Int:=
 (yZ F a2 a1.name).bind fun y3=>if (!(y3.2))=true then some 0
 else if (y3.1).hasText=true then (JV F a1.texts (y3.1).text).bind fun y7=>(GL F y7).bind fun y9=>some y9
 else (GL F false).bind fun y11=>some y11
def GV(F:Nat)(a1:B8)(a2:B8):Option Bool:=
 if (decide ((a1.length:Int)>=(a2.length:Int)))=true then if 0<=(a2.length:Int)/\(a2.length:Int).toNat<=a1.length then some ((a1.take (a2.length:Int).toNat)==a2) else none
 else some false
def Dc(F:Nat)(a1:B8)(a2:B8):Option Bool:=
 (GV F a1 a2).bind fun y3=>some y3
def IG(F:Nat)(a1:B8)(a2:Bool)(a3:Bool)(a4:B8)(a5:Int):Option Bool:=
 (Dc F a4 a1).bind fun y6=>some y6
def kD(F:Nat)(a2:Bool)(a3:Bool)(a4:B8)(a5:Int)(k6:Option Int):List B8->Int->Option Int
  |[],n8=>k6
  |x10::tl1,n8=>(IG F x10 a2 a3 a4 a5).bind fun y12=>if y12=true then some n8
 else kD F a2 a3 a4 a5 k6 tl1 (n8+1)
def IJ(F:Nat)(a1:(List B8))(a2:Bool)(a3:Bool)(a4:B8)(a5:Int):Option Int:=
 jn (some (-1)) (fun k6=>kD F a2 a3 a4 a5 k6 a1 0)
def GR(F:Nat)(a1:(List B8))(a2:Bool)(a3:Bool)(a4:B8)(a5:Int):Option Bool:=
 (IJ F a1 a2 a3 a4 a5).bind fun y6=>some (decide (y6>=0))
def AM(F:Nat)(a1:ct)(a2:aq):Option Int:=
 (yZ F a2 a1.name).bind fun y3=>if (!(y3.2))=true then some 0
 else if (y3.1).hasText=true then (GR F a1.texts (y3.1).hasText (y3.1).hasNumber (y3.1).text (y3.1).number).bind fun y7=>(GL F y7).bind fun y9=>some y9
 else (GL F false).bind fun y11=>some y11
def AL(F:Nat)(a1:cO)(a2:aq):Option Int:=
 (yZ F a2 a1.name).bind fun y3=>if (!(y3.2))=true then some 0
 else if (y3.1).hasText=true then (GL F true).bind fun y7=>some y7
 else (GL F (y3.1).hasNumber).bind fun y9=>some y9
def GQ(F:Nat)(a1:Int)(a2:Int)(a3:Int):Option Bool:=
 if (a2==1)=true then some (decide (a1<a3))
 else if (a2==2)=true then some (decide (a1<=a3))
 else if (a2==3)=true then some (a1==a3)
 else if (a2==4)=true then some (decide (a1>=a3))
 else some (decide (a1>a3))
def AK(F:Nat)(a1:cr)(a2:aq):Option Int:=
 (yZ F a2 a1.name).bind fun y3=>if (!(y3.2))=true then some 0
 else if (y3.1).hasNumber=true then (GQ F (y3.1).number a1.op a1.n).bind fun y7=>(GL F y7).bind fun y9=>some y9
 else (GL F false).bind fun y11=>some y11
def NM(F:Nat)(a1:Int):Option Int:=
 if (a1==1)=true then some 2
 else if (a1==2)=true then some 1
 else some 0
def AJ(Riholds:KV->aq->Option Int)(F:Nat)(a1:cN)(a2:aq):Option Int:=
 (Riholds a1.kid a2).bind fun y3=>(NM F y3).bind fun y5=>some y5
def fQ(Riholds:KV->aq->Option Int)(F:Nat)(a2:aq)(k3:Int->Option Int):List KV->Int->Option Int
  |[],n7=>k3 n7
  |x10::tl1,n7=>(Riholds x10 a2).bind fun y12=>jn (fun(n15:Int)=>fQ Riholds F a2 k3 tl1 n15) (fun k14=>if (y12==2)=true then some 2
 else if (y12==0)=true then k14 0
 else k14 n7)
def L3(Riholds:KV->aq->Option Int)(F:Nat)(a1:cQ)(a2:aq):Option Int:=
 jn (fun(n4:Int)=>some n4) (fun k3=>fQ Riholds F a2 k3 a1.kids 1)
def fO(Riholds:KV->aq->Option Int)(F:Nat)(a2:aq)(k3:Int->Option Int):List KV->Int->Option Int
  |[],n7=>k3 n7
  |x10::tl1,n7=>(Riholds x10 a2).bind fun y12=>jn (fun(n15:Int)=>fO Riholds F a2 k3 tl1 n15) (fun k14=>if (y12==1)=true then some 1
 else if (y12==0)=true then k14 0
 else k14 n7)
def L2(Riholds:KV->aq->Option Int)(F:Nat)(a1:cP)(a2:aq):Option Int:=
 jn (fun(n4:Int)=>some n4) (fun k3=>fO Riholds F a2 k3 a1.kids 2)
def L1(F:Nat)(a1:cH)(a2:aq):Option Int:=
 some 1
def gi(Riholds:KV->aq->Option Int)(F:Nat)(k:KV)(a1:aq):Option Int:=
 HK (gH bK 147 k) (fun y=>AN F y a1) (HK (gH bt 148 k) (fun y=>AM F y a1) (HK (gH bM 150 k) (fun y=>AL F y a1) (HK (gH br 152 k) (fun y=>AK F y a1) (HK (gH bU 154 k) (fun y=>AJ Riholds F y a1) (HK (gH bO 156 k) (fun y=>L3 Riholds F y a1) (HK (gH bN 157 k) (fun y=>L2 Riholds F y a1) (HK (gH bZ 159 k) (fun y=>L1 F y a1) (none))))))))
def de:Nat->KV->aq->Option Int
 |0,_,_=>none
 |F+1,k,a1=>gi (de F) F k a1
def Oi(F:Nat)(a1:List Int):Option (List Int):=if a1.length<4611686018427387904 then some (uL a1) else none
def IS(F:Nat)(a1:List Int):Option (List Int):=if a1.length<=140737488355328 then some (BI a1) else none
def fR(F:Nat)(x11:Int)(k13:(List Int)->Option (List Int)):Nat->Int->(List Int)->Option (List Int)
  |0,n17,l18=>k13 l18
  |tl2+1,n17,l18=>(cn ([(bh (x11 - 1)),x11,(bh (x11+1))]:List Int) n17).bind fun x20=>(tr F x20).bind fun y22=>jn (fun(l25:List Int)=>fR F x11 k13 tl2 (n17+1) l25) (fun k24=>if y22=true then if (l18++([x20]:List Int)).length*8<=140737488355328 then k24 (l18++([x20]:List Int)) else none
 else k24 l18)
def ie(F:Nat)(k2:(List Int)->Option (List Int)):List Int->(List Int)->Option (List Int)
 |[],l7=>k2 l7
 |x11::tl1,l7=>jn (fun(l10:List Int)=>ie F k2 tl1 l10) (fun k9=>jn (fun(l14:List Int)=>k9 l14) (fun k13=>if ((3:Nat):Int)<=9223372036854775807 then fR F x11 k13 ((((3:Nat):Int):Int).toNat) 0 l7 else none))
def za(F:Nat)(a1:ae):Option (List Int):=
 jn (fun(l3:List Int)=>(Oi F l3).bind fun y30=>if y30.length=l3.length then (IS F y30).bind fun y33=>some y33 else none) (fun k2=>ie F k2 a1.numbers ([0]:List Int))
def NT(F:Nat)(a1:(List B8)):Option (List B8):=
 Fb a1.length (fun b7=>if b7=true then some ([]:List B8)
 else if (([]:List B8)++a1).length*16<=140737488355328 then some (([]:List B8)++a1) else none)
def IK(F:Nat)(a1:B8)(a2:Int)(a3:B8):Option Bool:=
 if (decide ((a1.length:Int)>a2))=true then (Dc F a3 a1).bind fun y5=>some y5
 else some false
def gn(F:Nat)(a2:Int)(a3:B8)(k4:Option Int):List B8->Int->Option Int
  |[],n6=>k4
  |x8::tl1,n6=>(IK F x8 a2 a3).bind fun y10=>if y10=true then some n6
 else gn F a2 a3 k4 tl1 (n6+1)
def w8(F:Nat)(a1:(List B8))(a2:Int)(a3:B8):Option Int:=
 jn (some (-1)) (fun k4=>gn F a2 a3 k4 a1 0)
def w9(F:Nat)(a1:(List B8))(a2:Int)(a3:B8):Option Bool:=
 (w8 F a1 a2 a3).bind fun y4=>some (decide (y4>=0))
def GS(F:Nat)(a1:B8)(a2:(List B8))(a3:Int):Option Bool:=
 (w9 F a2 a3 a1).bind fun y4=>some y4
def jd(F:Nat)(a1:B8)(a2:(List B8))(a3:(List B8))(x12:B8)(k18:(List B8)->Option (B8×Bool)):Nat->Int->(List B8)->Option (B8×Bool)
 |0,_,_=>none
 |n+1,n22,l23=>if (decide (n22<=126))=true then jn (fun(l26:List B8)=>jd F a1 a2 a3 x12 k18 n (IntKind.wrap .u8 (n22+1)) l26) (fun k25=>if x12.length+(Utf8.encode (IntKind.wrap .i32 n22)).data.toList.length<=9223372036854775807 then (GS F (x12++(Utf8.encode (IntKind.wrap .i32 n22)).data.toList) a2 (a1.length:Int)).bind fun y28=>if y28=true then k25 l23
 else (JV F a3 (x12++(Utf8.encode (IntKind.wrap .i32 n22)).data.toList)).bind fun y31=>if (!y31)=true then some ((x12++(Utf8.encode (IntKind.wrap .i32 n22)).data.toList),true)
 else if (l23++([(x12++(Utf8.encode (IntKind.wrap .i32 n22)).data.toList)]:List B8)).length*16<=140737488355328 then k25 (l23++([(x12++(Utf8.encode (IntKind.wrap .i32 n22)).data.toList)]:List B8)) else none else none)
 else k18 l23
def hO(F:Nat)(a1:B8)(a2:(List B8))(a3:(List B8))(k4:Option (B8×Bool)):Nat->Int->(List B8)->Option (B8×Bool)
 |0,_,_=>none
 |n+1,n7,l8=>if (decide (n7<((l8.length:Nat):Int)))=true then jn (fun(l11:List B8)=>hO F a1 a2 a3 k4 n (bh (n7+1)) l11) (fun k10=>(cn l8 n7).bind fun x12=>(JV F a3 x12).bind fun y14=>if (!y14)=true then some (x12,true)
 else if ((x12.length:Int)==1000)=true then k10 l8
 else jn (fun(l19:List B8)=>k10 l19) (fun k18=>jd F a1 a2 a3 x12 k18 F 32 l8))
 else k4
def GW(F:Nat)(a1:B8)(a2:(List B8))(a3:(List B8)):Option (B8×Bool):=
 jn (some (([]:B8),false)) (fun k4=>hO F a1 a2 a3 k4 F 0 ([a1]:List B8))
def De(F:Nat)(a1:List B8):Option (List B8):=if a1.length<4611686018427387904 then some (dT a1) else none
def Da(F:Nat)(a1:List B8):Option (List B8):=if a1.length<=140737488355328 then some (BI a1) else none
def ic(F:Nat)(a1:ae)(k10:(List B8)->Option (List B8)):List B8->(List B8)->Option (List B8)
  |[],l15=>k10 l15
  |x17::tl1,l15=>(GW F x17 a1.begins a1.is).bind fun y19=>jn (fun(l22:List B8)=>ic F a1 k10 tl1 l22) (fun k21=>if (y19.2)=true then if (l15++([(y19.1)]:List B8)).length*16<=140737488355328 then k21 (l15++([(y19.1)]:List B8)) else none
 else k21 l15)
def qD(F:Nat)(a1:ae):Option (List B8):=
 (NT F a1.is).bind fun y2=>(JV F a1.begins ([]:B8)).bind fun y4=>jn (fun(l7:List B8)=>jn (fun(l11:List B8)=>(De F l11).bind fun y26=>if y26.length=l11.length then (Da F y26).bind fun y29=>some y29 else none) (fun k10=>ic F a1 k10 l7 y2)) (fun k6=>if (!y4)=true then if (([([]:B8)]:List B8)++a1.begins).length*16<=140737488355328 then k6 (([([]:B8)]:List B8)++a1.begins) else none
 else k6 a1.begins)
def eD(R0:((List (aa×Bool))×(List (B8×(List aa))))->aa->Option ((List (aa×Bool))×(List (B8×(List aa)))))(F:Nat)(x51:B8)(k53:(List (aa×Bool))->(List (B8×(List aa)))->Option ((List (aa×Bool))×(List (B8×(List aa))))):List aa->(List (aa×Bool))->(List (B8×(List aa)))->Option ((List (aa×Bool))×(List (B8×(List aa))))
 |[],m60,m61=>k53 m60 m61
 |x63::tl4,m60,m61=>(R0 (m60,m61) (aa.mk true x63.hasNumber x51 x63.number)).bind fun y65=>eD R0 F x51 k53 tl4 (y65.1) (y65.2)
def dl(R0:((List (aa×Bool))×(List (B8×(List aa))))->aa->Option ((List (aa×Bool))×(List (B8×(List aa)))))(F:Nat)(l12:List aa):List B8->(List (aa×Bool))->(List (B8×(List aa)))->Option ((List (aa×Bool))×(List (B8×(List aa))))
 |[],m45,m46=>some (m45,m46)
 |x51::tl3,m45,m46=>jn (fun(m49:List (aa×Bool)) (m50:List (B8×(List aa)))=>dl R0 F l12 tl3 m49 m50) (fun k48=>jn (fun(m54:List (aa×Bool)) (m55:List (B8×(List aa)))=>k48 m54 m55) (fun k53=>eD R0 F x51 k53 l12 m45 m46))
def gj(R0:((List (aa×Bool))×(List (B8×(List aa))))->aa->Option ((List (aa×Bool))×(List (B8×(List aa)))))(F:Nat)(k22:(List (aa×Bool))->(List (B8×(List aa)))->Option ((List (aa×Bool))×(List (B8×(List aa))))):List aa->(List (aa×Bool))->(List (B8×(List aa)))->Option ((List (aa×Bool))×(List (B8×(List aa))))
 |[],m29,m30=>k22 m29 m30
 |x32::tl2,m29,m30=>(R0 (m29,m30) x32).bind fun y34=>gj R0 F k22 tl2 (y34.1) (y34.2)
def gL(F:Nat)(k11:(List aa)->Option ((List (aa×Bool))×(List (B8×(List aa))))):List Int->(List aa)->Option ((List (aa×Bool))×(List (B8×(List aa))))
 |[],l16=>k11 l16
 |x18::tl1,l16=>if (l16++([(aa.mk false true ([]:B8) x18)]:List aa)).length*32<=140737488355328 then gL F k11 tl1 (l16++([(aa.mk false true ([]:B8) x18)]:List aa)) else none
def NJ(R0:((List (aa×Bool))×(List (B8×(List aa))))->aa->Option ((List (aa×Bool))×(List (B8×(List aa)))))(F:Nat)(a1:List B8)(a2:List B8)(a3:List Int)(a4:Bool)(a5:Bool)(a6:Bool)(a7:Int)(q0:List (aa×Bool))(q1:List (B8×(List aa))):Option ((List (aa×Bool))×(List (B8×(List aa)))):=
 if a5=true then (za F (ae.mk a1 a2 a3 a4 a5 a6 a7)).bind fun y9=>jn (fun(l12:List aa)=>jn (fun(m23:List (aa×Bool)) (m24:List (B8×(List aa)))=>if (!a4)=true then if (!a6)=true then some (m23,m24)
 else (qD F (ae.mk a1 a2 a3 a4 a5 a6 a7)).bind fun y39=>dl R0 F l12 y39 m23 m24
 else (qD F (ae.mk a1 a2 a3 a4 a5 a6 a7)).bind fun y69=>dl R0 F l12 y69 m23 m24) (fun k22=>gj R0 F k22 l12 q0 q1)) (fun k11=>gL F k11 y9 ([(aa.mk false false ([]:B8) 0)]:List aa))
 else jn (fun(l100:List aa)=>jn (fun(m116:List (aa×Bool)) (m117:List (B8×(List aa)))=>if (!a4)=true then if (!a6)=true then some (m116,m117)
 else (qD F (ae.mk a1 a2 a3 a4 a5 a6 a7)).bind fun y132=>dl R0 F l100 y132 m116 m117
 else (qD F (ae.mk a1 a2 a3 a4 a5 a6 a7)).bind fun y162=>dl R0 F l100 y162 m116 m117) (fun k115=>gj R0 F k115 l100 q0 q1)) (fun k99=>if a6=true then (za F (ae.mk a1 a2 a3 a4 a5 a6 a7)).bind fun y102=>jn (fun(l105:List aa)=>k99 l105) (fun k104=>gL F k104 y102 ([(aa.mk false false ([]:B8) 0)]:List aa))
 else k99 ([(aa.mk false false ([]:B8) 0)]:List aa))
def kB(F:Nat)(x74:B8)(m83:List (aa×Bool))(m84:List (B8×(List aa)))(v80:aa):Option ((List (aa×Bool))×(List (B8×(List aa)))):=
 jn (fun(m86:List (aa×Bool)) (m87:List (B8×(List aa)))=>some (m86,m87)) (fun k85=>if (!((aH m83 v80).getD false))=true then if (((aH m84 x74).getD [])++([v80]:List aa)).length*32<=140737488355328 then k85 (bI m83 v80 true) (bI m84 x74 (((aH m84 x74).getD [])++([v80]:List aa))) else none
 else k85 m83 m84)
def gm(F:Nat)(a1:(List (B8×(Option ae))))(a4:List (B8×aa))(k53:(List B8)->(List (B8×(List aa)))->(List (B8×aa))->(List (B8×Bool))->Option ((List (B8×(List aa)))×(List B8)×(List (B8×aa))×(List (B8×Bool)))):List B8->(List B8)->(List (B8×(List aa)))->(List (B8×aa))->(List (B8×Bool))->Option ((List (B8×(List aa)))×(List B8)×(List (B8×aa))×(List (B8×Bool)))
  |[],l64,m65,m66,m67=>k53 l64 m65 m66 m67
  |x74::tl1,l64,m65,m66,m67=>jn (fun(l70:List B8) (m71:List (B8×(List aa))) (m72:List (B8×aa)) (m73:List (B8×Bool))=>gm F a1 a4 k53 tl1 l70 m71 m72 m73) (fun k69=>if ((aH a4 x74).isSome)=true then k69 l64 m65 (bI m66 x74 ((aH a4 x74).getD (aa.mk false false ([]:B8) 0))) (bI m67 x74 true)
 else if (l64++([x74]:List B8)).length*16<=140737488355328 then (((aH a1 x74).getD (none:Option ae))).bind fun x78=>(NJ (fun p x=>kB F x74 p.1 p.2 x) F x78.is x78.begins x78.numbers x78.asText x78.asNo x78.has x78.weight ([]:List (aa×Bool)) m65).bind fun y90=>k69 (l64++([x74]:List B8)) (y90.2) m66 m67 else none)
def Hd(F:Nat)(a1:(List (B8×(Option ae))))(a2:Bool)(a3:KV)(a4:List (B8×aa)):Option ((List (B8×(List aa)))×(List B8)×(List (B8×aa))×(List (B8×Bool))):=
 (pP a1).bind fun l51=>jn (fun(l54:List B8) (m55:List (B8×(List aa))) (m56:List (B8×aa)) (m57:List (B8×Bool))=>some (m55,l54,m56,m57)) (fun k53=>gm F a1 a4 k53 l51 ([]:List B8) ([]:List (B8×(List aa))) ([]:List (B8×aa)) ([]:List (B8×Bool)))
def LV(F:Nat)(a1:aq)(a2:Bool)(a3:KV):Option Int:=
 if a2=true then (de F a3 a1).bind fun y5=>(NM F y5).bind fun y7=>some y7
 else (de F a3 a1).bind fun y9=>some y9
def ju(R36:Int->(List (B8×(List aa)))->Bool->KV->(List B8)->(List (B8×aa))->(List (B8×Bool))->Option (Bool×(List (B8×aa))×(List (B8×Bool))))(F:Nat)(a1:Int)(a2:(List (B8×(List aa))))(a3:Bool)(a4:KV)(a5:List B8)(x39:B8)(k41:(List (B8×aa))->(List (B8×Bool))->Option (Bool×(List (B8×aa))×(List (B8×Bool)))):List aa->(List (B8×aa))->(List (B8×Bool))->Option (Bool×(List (B8×aa))×(List (B8×Bool)))
  |[],m48,m49=>k41 m48 m49
  |x51::tl1,m48,m49=>(R36 (bh (a1+1)) a2 a3 a4 a5 (bI m48 x39 x51) m49).bind fun y53=>if (y53.1)=true then some (true,(y53.2.1),(y53.2.2))
 else ju R36 F a1 a2 a3 a4 a5 x39 k41 tl1 (y53.2.1) (y53.2.2)
def kT(R36:Int->(List (B8×(List aa)))->Bool->KV->(List B8)->(List (B8×aa))->(List (B8×Bool))->Option (Bool×(List (B8×aa))×(List (B8×Bool))))(F:Nat)(a1:Int)(a2:(List (B8×(List aa))))(a3:Bool)(a4:KV)(a5:List B8)(a6:List (B8×aa))(a7:List (B8×Bool)):Option (Bool×(List (B8×aa))×(List (B8×Bool))):=
 (LV F (aq.mk a6 (some a7)) a3 a4).bind fun y34=>if (y34==1)=true then some (true,a6,a7)
 else if (y34==2)=true then some (false,a6,a7)
 else if (a1==((a5.length:Nat):Int))=true then some (false,a6,a7)
 else (cn a5 a1).bind fun x39=>jn (fun(m42:List (B8×aa)) (m43:List (B8×Bool))=>some (false,(dj m42 x39),(dj m43 x39))) (fun k41=>ju R36 F a1 a2 a3 a4 a5 x39 k41 ((aH a2 x39).getD ([]:(List aa))) a6 (bI a7 x39 true))
def xn:Nat->Int->(List (B8×(List aa)))->Bool->KV->(List B8)->(List (B8×aa))->(List (B8×Bool))->Option (Bool×(List (B8×aa))×(List (B8×Bool)))
 |0,_,_,_,_,_,_,_=>none
 |F+1,a1,a2,a3,a4,a5,a6,a7=>kT (xn F) F a1 a2 a3 a4 a5 a6 a7
def gO(F:Nat)(y9:KV)(y11:(List (B8×(Option ae))))(y16:aq)(y18:Int)(k28:(List B8)->Option ((List B8)×Bool×Int)):List B8->(List (B8×aa))->(List B8)->Option ((List B8)×Bool×Int)
  |[],m34,l35=>k28 l35
  |x37::tl2,m34,l35=>(Hd F y11 (y18==1) y9 (dj m34 x37)).bind fun y39=>(xn F 0 (y39.1) (y18==1) y9 (y39.2.1) (y39.2.2.1) (y39.2.2.2)).bind fun y41=>jn (fun(m44:List (B8×aa)) (l45:List B8)=>gO F y9 y11 y16 y18 k28 tl2 m44 l45) (fun k43=>if (y41.1)=true then if (l35++([x37]:List B8)).length*16<=140737488355328 then k43 (bI (dj m34 x37) x37 ((aH y16.by_ x37).getD (aa.mk false false ([]:B8) 0))) (l35++([x37]:List B8)) else none
 else k43 (dj m34 x37) l35)
def fv(F:Nat)(y9:KV)(y11:(List (B8×(Option ae))))(y16:aq)(y18:Int):List (B8×(Option ae))->(List (B8×aa))->Option ((List B8)×Bool×Int)
 |[],m22=>(pP y11).bind fun l26=>jn (fun(l29:List B8)=>some (l29,(y18==1),0)) (fun k28=>gO F y9 y11 y16 y18 k28 l26 m22 ([]:List B8))
 |e24::l25,m22=>fv F y9 y11 y16 y18 l25 (bI m22 e24.1 ((aH y16.by_ e24.1).getD (aa.mk false false ([]:B8) 0)))
def IW(F:Nat)(a1:aC)(a2:bC):Option ((List B8)×Bool×Int):=
 (NS F a1).bind fun y3=>if (y3 != 0)=true then some (([]:List B8),false,y3)
 else (NO F a2).bind fun y6=>if (y6 != 0)=true then some (([]:List B8),false,y6)
 else (JX F a1).bind fun y9=>(GP F y9 ([]:List (B8×(Option ae)))).bind fun y11=>(NR F y11).bind fun y13=>if (!y13)=true then some (([]:List B8),false,3)
 else (NN F a2).bind fun y16=>(de F y9 y16).bind fun y18=>fv F y9 y11 y16 y18 y11 ([]:List (B8×aa))
def nM(R92:aC->Int->Option Int)(F:Nat)(a1:aC)(a2:Int)(k3:Int->Option Int):Nat->Int->Int->Option Int
 |0,_,_=>none
 |n+1,n7,n8=>if (decide (n8<((a1.Kids.length:Nat):Int)))=true then if (decide (n7<=a2))=true then (cn a1.Kids n8).bind fun x11=>(dD ah x11).bind fun y13=>(R92 y13 (bh (a2 - n7))).bind fun y15=>nM R92 F a1 a2 k3 n (bh (n7+y15)) (bh (n8+1))
 else k3 n7
 else k3 n7
def yR(R92:aC->Int->Option Int)(F:Nat)(a1:aC)(a2:Int):Option Int:=
 jn (fun(n4:Int)=>some n4) (fun k3=>nM R92 F a1 a2 k3 F 1 0)
def JS:Nat->aC->Int->Option Int
 |0,_,_=>none
 |F+1,a1,a2=>yR (JS F) F a1 a2
def ma(R93:aC->Option Int)(F:Nat)(a1:aC)(k2:Int->Option Int):Nat->Int->Int->Option Int
 |0,n7,n6=>k2 n6
 |tl1+1,n7,n6=>(cn a1.Kids n7).bind fun x9=>(dD ah x9).bind fun y11=>(R93 y11).bind fun y13=>ma R93 F a1 k2 tl1 (n7+1) (if y13>n6 then y13 else n6)
def yQ(R93:aC->Option Int)(F:Nat)(a1:aC):Option Int:=
 jn (fun(n3:Int)=>some (bh (n3+1))) (fun k2=>if ((a1.Kids.length:Nat):Int)<=9223372036854775807 then ma R93 F a1 k2 ((((a1.Kids.length:Nat):Int):Int).toNat) 0 0 else none)
def JR:Nat->aC->Option Int
 |0,_=>none
 |F+1,a1=>yQ (JR F) F a1
def tX(F:Nat)(a1:Int)(a2:Int)(a3:Int):Option Bool:=
 if (decide (a1<a2))=true then some true
 else some (decide (a1>a3))
def pI(F:Nat)(a1:aC):Option Int:=
 (tX F a1.Kind 1 8).bind fun y2=>if y2=true then some 7
 else if (decide (a1.Kind>=2))=true then if (a1.Kind==2)=true then jn (fun(b8:Bool)=>if (!(decide (a1.Kind<=5)))=true then if (!(a1.Name==([]:B8)))=true then some 2
 else if (!(a1.Kind==5))=true then if (a1.Op != 0)=true then some 2
 else if (a1.N != 0)=true then some 2
 else if (!b8)=true then some 2
 else some 0
 else if (!b8)=true then some 2
 else some 0
 else if (!(a1.Kind==5))=true then if (a1.Op != 0)=true then some 2
 else if (a1.N != 0)=true then some 2
 else if (!b8)=true then some 2
 else some 0
 else if (!b8)=true then some 2
 else some 0) (fun k7=>if (a1.Kind==6)=true then k7 (((a1.Kids.length:Nat):Int)==1)
 else jn (fun(b11:Bool)=>if b11=true then k7 (decide (((a1.Kids.length:Nat):Int)>=2))
 else k7 (((a1.Kids.length:Nat):Int)==0)) (fun k10=>if (a1.Kind==7)=true then k10 (a1.Kind==7)
 else k10 (a1.Kind==8)))
 else jn (fun(b27:Bool)=>if (!(decide (a1.Kind<=5)))=true then if (!(a1.Name==([]:B8)))=true then some 2
 else if (!(a1.Kind==3))=true then if (decide (((a1.Texts.length:Nat):Int)>0))=true then some 2
 else if (!(a1.Kind==5))=true then if (a1.Op != 0)=true then some 2
 else if (a1.N != 0)=true then some 2
 else if (!b27)=true then some 2
 else some 0
 else if (!b27)=true then some 2
 else some 0
 else if (!(a1.Kind==5))=true then if (a1.Op != 0)=true then some 2
 else if (a1.N != 0)=true then some 2
 else if (!b27)=true then some 2
 else some 0
 else if (!b27)=true then some 2
 else some 0
 else if (!(a1.Kind==3))=true then if (decide (((a1.Texts.length:Nat):Int)>0))=true then some 2
 else if (!(a1.Kind==5))=true then if (a1.Op != 0)=true then some 2
 else if (a1.N != 0)=true then some 2
 else if (!b27)=true then some 2
 else some 0
 else if (!b27)=true then some 2
 else some 0
 else if (!(a1.Kind==5))=true then if (a1.Op != 0)=true then some 2
 else if (a1.N != 0)=true then some 2
 else if (!b27)=true then some 2
 else some 0
 else if (!b27)=true then some 2
 else some 0) (fun k26=>if (a1.Kind==6)=true then k26 (((a1.Kids.length:Nat):Int)==1)
 else jn (fun(b30:Bool)=>if b30=true then k26 (decide (((a1.Kids.length:Nat):Int)>=2))
 else k26 (((a1.Kids.length:Nat):Int)==0)) (fun k29=>if (a1.Kind==7)=true then k29 (a1.Kind==7)
 else k29 (a1.Kind==8)))
 else if (a1.Kind==2)=true then jn (fun(b61:Bool)=>if (!(a1.Name==([]:B8)))=true then some 2
 else if (!(a1.Kind==5))=true then if (a1.Op != 0)=true then some 2
 else if (a1.N != 0)=true then some 2
 else if (!b61)=true then some 2
 else some 0
 else if (!b61)=true then some 2
 else some 0) (fun k60=>if (a1.Kind==6)=true then k60 (((a1.Kids.length:Nat):Int)==1)
 else jn (fun(b64:Bool)=>if b64=true then k60 (decide (((a1.Kids.length:Nat):Int)>=2))
 else k60 (((a1.Kids.length:Nat):Int)==0)) (fun k63=>if (a1.Kind==7)=true then k63 (a1.Kind==7)
 else k63 (a1.Kind==8)))
 else jn (fun(b74:Bool)=>if (!(a1.Name==([]:B8)))=true then some 2
 else if (!(a1.Kind==3))=true then if (decide (((a1.Texts.length:Nat):Int)>0))=true then some 2
 else if (!(a1.Kind==5))=true then if (a1.Op != 0)=true then some 2
 else if (a1.N != 0)=true then some 2
 else if (!b74)=true then some 2
 else some 0
 else if (!b74)=true then some 2
 else some 0
 else if (!(a1.Kind==5))=true then if (a1.Op != 0)=true then some 2
 else if (a1.N != 0)=true then some 2
 else if (!b74)=true then some 2
 else some 0
 else if (!b74)=true then some 2
 else some 0) (fun k73=>if (a1.Kind==6)=true then k73 (((a1.Kids.length:Nat):Int)==1)
 else jn (fun(b77:Bool)=>if b77=true then k73 (decide (((a1.Kids.length:Nat):Int)>=2))
 else k73 (((a1.Kids.length:Nat):Int)==0)) (fun k76=>if (a1.Kind==7)=true then k76 (a1.Kind==7)
 else k76 (a1.Kind==8)))
def lZ(F:Nat)(a1:B8)(k2:Option Bool):Nat->Int->Option Bool
  |0,n4=>k2
  |tl1+1,n4=>if 0<=n4/\n4.toNat<20 then if (((sN [] [([114,117,108,101]:B8),([97,98,111,117,116]:B8),([119,104,101,110]:B8),([119,97,105,118,101]:B8),([102,111,114]:B8),([102,114,111,109]:B8),([116,111]:B8),([98,121]:B8),([97,115]:B8),([112,97,115,115]:B8),([110,111,116,101]:B8),([119,97,114,110]:B8),([100,101,110,121]:B8),([111,114]:B8),([97,110,100]:B8),([116,114,117,101]:B8),([105,115]:B8),([98,101,103,105,110,115]:B8),([104,97,115]:B8),([110,111,116]:B8)]) n4.toNat)==a1)=true then some true
 else lZ F a1 k2 tl1 (n4+1) else none
def NI(F:Nat)(a1:B8):Option Bool:=
 jn (some false) (fun k2=>if (20:Int)<=9223372036854775807 then lZ F a1 k2 ((20:Int).toNat) 0 else none)
def NH(F:Nat)(a1:Int):Option Bool:=
 if (decide (a1>=97))=true then if (decide (a1<=122))=true then some true
 else if (decide (a1>=48))=true then if (decide (a1<=57))=true then some true
 else some (a1==45)
 else some (a1==45)
 else if (decide (a1>=48))=true then if (decide (a1<=57))=true then some true
 else some (a1==45)
 else some (a1==45)
def nQ(F:Nat)(a1:B8)(k13:Option Bool):Nat->Int->Option Bool
  |0,n15=>k13
  |tl1+1,n15=>(cn a1 n15).bind fun c17=>(NH F (c17.toNat:Int)).bind fun y19=>if (!y19)=true then some false
 else nQ F a1 k13 tl1 (n15+1)
def zm(F:Nat)(a1:B8):Option Bool:=
 if (a1==([]:B8))=true then some false
 else if (decide ((a1.length:Int)>40))=true then some false
 else (cn a1 0).bind fun c4=>if (decide ((c4.toNat:Int)<97))=true then some false
 else (cn a1 0).bind fun c7=>if (decide ((c7.toNat:Int)>122))=true then some false
 else (NI F a1).bind fun y10=>if y10=true then some false
 else jn (some true) (fun k13=>if (a1.length:Int)<=9223372036854775807 then nQ F a1 k13 (((a1.length:Int):Int).toNat) 0 else none)
def nN(F:Nat)(a1:B8)(k3:Option Bool):Nat->Int->Option Bool
  |0,n5=>k3
  |tl1+1,n5=>(cn a1 n5).bind fun c7=>if (decide ((c7.toNat:Int)<32))=true then some false
 else (cn a1 n5).bind fun c10=>if (decide ((c10.toNat:Int)>126))=true then some false
 else nN F a1 k3 tl1 (n5+1)
def LQ(F:Nat)(a1:B8):Option Bool:=
 if (decide ((a1.length:Int)>1000))=true then some false
 else jn (some true) (fun k3=>if (a1.length:Int)<=9223372036854775807 then nN F a1 k3 (((a1.length:Int):Int).toNat) 0 else none)
def co(F:Nat)(a1:aC)(k13:Option Int):List B8->Int->Option Int
  |[],n15=>k13
  |x18::tl1,n15=>jn (co F a1 k13 tl1 (n15+1)) (fun k17=>(LQ F x18).bind fun y20=>if (!y20)=true then some 2
 else if (decide (n15>0))=true then (cn a1.Texts n15).bind fun x24=>(cn a1.Texts (bh (n15 - 1))).bind fun x26=>if (Op.bytesLess x24 x26||x24==x26)=true then some 10
 else k17
 else k17)
def jw(F:Nat)(a1:aC):Option Int:=
 (pI F a1).bind fun y2=>if (y2 != 0)=true then some y2
 else if (decide (a1.Kind>=2))=true then if (decide (a1.Kind<=5))=true then (zm F a1.Name).bind fun y7=>if (!y7)=true then some 8
 else if (a1.Kind==2)=true then if (((a1.Texts.length:Nat):Int)==0)=true then some 13
 else if (decide (((a1.Texts.length:Nat):Int)>50))=true then some 3
 else jn (jn (some 0) (fun k30=>if (a1.Kind==5)=true then (tX F a1.Op 1 5).bind fun y32=>if y32=true then some 7
 else (tX F a1.N (-1000000000000) 1000000000000).bind fun y35=>if y35=true then some 9
 else k30
 else k30)) (fun k13=>co F a1 k13 a1.Texts 0)
 else jn (jn (some 0) (fun k59=>if (a1.Kind==5)=true then (tX F a1.Op 1 5).bind fun y61=>if y61=true then some 7
 else (tX F a1.N (-1000000000000) 1000000000000).bind fun y64=>if y64=true then some 9
 else k59
 else k59)) (fun k38=>if (a1.Kind==3)=true then if (((a1.Texts.length:Nat):Int)==0)=true then some 13
 else if (decide (((a1.Texts.length:Nat):Int)>50))=true then some 3
 else jn (k38) (fun k42=>co F a1 k42 a1.Texts 0)
 else k38)
 else if (a1.Kind==2)=true then if (((a1.Texts.length:Nat):Int)==0)=true then some 13
 else if (decide (((a1.Texts.length:Nat):Int)>50))=true then some 3
 else jn (jn (some 0) (fun k87=>if (a1.Kind==5)=true then (tX F a1.Op 1 5).bind fun y89=>if y89=true then some 7
 else (tX F a1.N (-1000000000000) 1000000000000).bind fun y92=>if y92=true then some 9
 else k87
 else k87)) (fun k70=>co F a1 k70 a1.Texts 0)
 else jn (jn (some 0) (fun k116=>if (a1.Kind==5)=true then (tX F a1.Op 1 5).bind fun y118=>if y118=true then some 7
 else (tX F a1.N (-1000000000000) 1000000000000).bind fun y121=>if y121=true then some 9
 else k116
 else k116)) (fun k95=>if (a1.Kind==3)=true then if (((a1.Texts.length:Nat):Int)==0)=true then some 13
 else if (decide (((a1.Texts.length:Nat):Int)>50))=true then some 3
 else jn (k95) (fun k99=>co F a1 k99 a1.Texts 0)
 else k95)
 else if (a1.Kind==2)=true then if (((a1.Texts.length:Nat):Int)==0)=true then some 13
 else if (decide (((a1.Texts.length:Nat):Int)>50))=true then some 3
 else jn (jn (some 0) (fun k144=>if (a1.Kind==5)=true then (tX F a1.Op 1 5).bind fun y146=>if y146=true then some 7
 else (tX F a1.N (-1000000000000) 1000000000000).bind fun y149=>if y149=true then some 9
 else k144
 else k144)) (fun k127=>co F a1 k127 a1.Texts 0)
 else jn (jn (some 0) (fun k173=>if (a1.Kind==5)=true then (tX F a1.Op 1 5).bind fun y175=>if y175=true then some 7
 else (tX F a1.N (-1000000000000) 1000000000000).bind fun y178=>if y178=true then some 9
 else k173
 else k173)) (fun k152=>if (a1.Kind==3)=true then if (((a1.Texts.length:Nat):Int)==0)=true then some 13
 else if (decide (((a1.Texts.length:Nat):Int)>50))=true then some 3
 else jn (k152) (fun k156=>co F a1 k156 a1.Texts 0)
 else k152)
def l0(R94:aC->Option Int)(F:Nat)(a1:aC)(k5:Option Int):Nat->Int->Option Int
  |0,n7=>k5
  |tl1+1,n7=>(cn a1.Kids n7).bind fun x9=>(dD ah x9).bind fun y11=>(R94 y11).bind fun y13=>if (y13 != 0)=true then some y13
 else l0 R94 F a1 k5 tl1 (n7+1)
def yP(R94:aC->Option Int)(F:Nat)(a1:aC):Option Int:=
 (jw F a1).bind fun y2=>if (y2 != 0)=true then some y2
 else jn (some 0) (fun k5=>if ((a1.Kids.length:Nat):Int)<=9223372036854775807 then l0 R94 F a1 k5 ((((a1.Kids.length:Nat):Int):Int).toNat) 0 else none)
def JQ:Nat->aC->Option Int
 |0,_=>none
 |F+1,a1=>yP (JQ F) F a1
def NQ(F:Nat)(a1:aC):Option Int:=
 (JS F a1 60).bind fun y2=>if (decide (y2>60))=true then some 3
 else (JR F a1).bind fun y5=>if (decide (y5>12))=true then some 3
 else (JQ F a1).bind fun y8=>some y8
def mn(F:Nat)(a1:bC)(k32:Option Int):List cp->Int->Option Int
  |[],n34=>k32
  |x36::tl2,n34=>(zm F x36.Name).bind fun y38=>jn (mn F a1 k32 tl2 (n34+1)) (fun k40=>if (!y38)=true then some 8
 else (cn a1.Numbers n34).bind fun x42=>(tX F x42.N (-1000000000000) 1000000000000).bind fun y44=>if y44=true then some 9
 else if (decide (n34>0))=true then (cn a1.Numbers n34).bind fun x48=>(cn a1.Numbers (bh (n34 - 1))).bind fun x50=>if (Op.bytesLess x48.Name x50.Name||x48.Name==x50.Name)=true then some 10
 else k40
 else k40)
def mo(F:Nat)(a1:bC)(k9:Option Int):List dB->Int->Option Int
  |[],n11=>k9
  |x13::tl1,n11=>(zm F x13.Name).bind fun y15=>jn (mo F a1 k9 tl1 (n11+1)) (fun k17=>if (!y15)=true then some 8
 else (cn a1.Texts n11).bind fun x19=>(LQ F x19.Value).bind fun y21=>if (!y21)=true then some 2
 else if (decide (n11>0))=true then (cn a1.Texts n11).bind fun x25=>(cn a1.Texts (bh (n11 - 1))).bind fun x27=>if (Op.bytesLess x25.Name x27.Name||x25.Name==x27.Name)=true then some 10
 else k17
 else k17)
def NV(F:Nat)(a1:bC):Option Int:=
 (zm F a1.Kind).bind fun y2=>if (!y2)=true then some 8
 else (LQ F a1.Subject).bind fun y5=>if (!y5)=true then some 2
 else if (decide (((a1.Texts.length:Nat):Int)>30))=true then some 3
 else jn (if (decide (((a1.Numbers.length:Nat):Int)>30))=true then some 3
 else jn (some 0) (fun k32=>mn F a1 k32 a1.Numbers 0)) (fun k9=>mo F a1 k9 a1.Texts 0)
def kH(F:Nat)(a1:(List B8))(a2:B8)(k3:Int->Option (Int×Bool)):Nat->Int->Int->Option (Int×Bool)
 |0,_,_=>none
 |n+1,n7,n8=>if (decide (n7<n8))=true then (cn a1 (bh (Int.tdiv (bh (n7+n8)) 2))).bind fun x10=>jn (fun(n13:Int) (n14:Int)=>kH F a1 a2 k3 n n13 n14) (fun k12=>if (Op.bytesLess x10 a2)=true then k12 (bh ((bh (Int.tdiv (bh (n7+n8)) 2))+1)) n8
 else k12 n7 (bh (Int.tdiv (bh (n7+n8)) 2)))
 else k3 n7
def zb(F:Nat)(a1:(List B8))(a2:B8):Option (Int×Bool):=
 jn (fun(n4:Int)=>if (decide (n4<((a1.length:Nat):Int)))=true then (cn a1 n4).bind fun x17=>some (n4,(x17==a2))
 else some (n4,false)) (fun k3=>kH F a1 a2 k3 F 0 ((a1.length:Nat):Int))
def xe(F:Nat)(a1:(List B8))(a2:B8):Option (List B8):=
 (zb F a1 a2).bind fun y3=>if (y3.2)=true then some a1
 else if 0<=(y3.1)/\(y3.1).toNat<=a1.length then if (a1.take (y3.1).toNat).length*16<=140737488355328 then if ((a1.take (y3.1).toNat)++([a2]:List B8)).length*16<=140737488355328 then if 0<=(y3.1)/\(y3.1).toNat<=a1.length then if (((a1.take (y3.1).toNat)++([a2]:List B8))++(a1.drop (y3.1).toNat)).length*16<=140737488355328 then some (((a1.take (y3.1).toNat)++([a2]:List B8))++(a1.drop (y3.1).toNat)) else none else none else none else none else none
def mh(R51:aC->(List B8)->Option (List B8))(F:Nat)(a1:aC)(k6:(List B8)->Option (List B8)):Nat->Int->(List B8)->Option (List B8)
 |0,n11,l10=>k6 l10
 |tl1+1,n11,l10=>(cn a1.Kids n11).bind fun x13=>(dD ah x13).bind fun y15=>(R51 y15 l10).bind fun y17=>mh R51 F a1 k6 tl1 (n11+1) y17
def yW(R51:aC->(List B8)->Option (List B8))(F:Nat)(a1:aC)(a2:(List B8)):Option (List B8):=
 if (!(a1.Name==([]:B8)))=true then (xe F a2 a1.Name).bind fun y4=>some y4
 else jn (fun(l7:List B8)=>some l7) (fun k6=>if ((a1.Kids.length:Nat):Int)<=9223372036854775807 then mh R51 F a1 k6 ((((a1.Kids.length:Nat):Int):Int).toNat) 0 a2 else none)
def C8:Nat->aC->(List B8)->Option (List B8)
 |0,_,_=>none
 |F+1,a1,a2=>yW (C8 F) F a1 a2
def gG(R97_1:aC->B8->(List aM)->Option (List aM))(F:Nat)(a1:aC)(a2:B8)(k23:(List aM)->Option (List aM)):Nat->Int->(List aM)->Option (List aM)
 |0,n27,l28=>k23 l28
 |tl1+1,n27,l28=>(cn a1.Kids n27).bind fun x30=>(dD ah x30).bind fun y32=>(R97_1 y32 a2 l28).bind fun y34=>gG R97_1 F a1 a2 k23 tl1 (n27+1) y34
def oU(R97_1:aC->B8->(List aM)->Option (List aM))(F:Nat)(a1:aC)(a2:B8)(a3:List aM):Option (List aM):=
 if (a1.Name==a2)=true then if (a3++([tH ah a1]:List aM)).length*88<=140737488355328 then some (a3++([tH ah a1]:List aM)) else none
 else jn (fun(l24:List aM)=>some l24) (fun k23=>if ((a1.Kids.length:Nat):Int)<=9223372036854775807 then gG R97_1 F a1 a2 k23 ((((a1.Kids.length:Nat):Int):Int).toNat) 0 a3 else none)
def qd:Nat->aC->B8->(List aM)->Option (List aM)
 |0,_,_,_=>none
 |F+1,a1,a2,a3=>oU (qd F) F a1 a2 a3
def lY(F:Nat)(a1:aC)(a2:B8)(k22:(List aM)->Option (List aM)):Nat->Int->(List aM)->Option (List aM)
 |0,n26,l27=>k22 l27
 |tl1+1,n26,l27=>(cn a1.Kids n26).bind fun x29=>(dD ah x29).bind fun y31=>(qd F y31 a2 l27).bind fun y33=>lY F a1 a2 k22 tl1 (n26+1) y33
def Mo(F:Nat)(a1:aC)(a2:B8):Option (List aM):=
 if (a1.Name==a2)=true then if (([]:List aM)++([tH ah a1]:List aM)).length*88<=140737488355328 then some (([]:List aM)++([tH ah a1]:List aM)) else none
 else jn (fun(l23:List aM)=>some l23) (fun k22=>if ((a1.Kids.length:Nat):Int)<=9223372036854775807 then lY F a1 a2 k22 ((((a1.Kids.length:Nat):Int):Int).toNat) 0 ([]:List aM) else none)
def lX(F:Nat)(a1:(List aM))(k2:Bool->Bool->Bool->Option (Bool×Bool×Bool)):Nat->Int->Bool->Bool->Bool->Option (Bool×Bool×Bool)
  |0,n13,b10,b11,b12=>k2 b10 b11 b12
  |tl1+1,n13,b10,b11,b12=>jn (fun(b16:Bool) (b17:Bool) (b18:Bool)=>lX F a1 k2 tl1 (n13+1) b16 b17 b18) (fun k15=>if b10=true then if b11=true then if b12=true then k15 true true true
 else (cn a1 n13).bind fun x22=>(dD ah x22).bind fun y24=>k15 true true (y24.Kind==4)
 else (cn a1 n13).bind fun x26=>(dD ah x26).bind fun y28=>if b12=true then k15 true (y28.Kind==5) true
 else (cn a1 n13).bind fun x31=>(dD ah x31).bind fun y33=>k15 true (y28.Kind==5) (y33.Kind==4)
 else (cn a1 n13).bind fun x35=>(dD ah x35).bind fun y37=>if (y37.Kind==2)=true then if b11=true then if b12=true then k15 true true true
 else (cn a1 n13).bind fun x42=>(dD ah x42).bind fun y44=>k15 true true (y44.Kind==4)
 else (cn a1 n13).bind fun x46=>(dD ah x46).bind fun y48=>if b12=true then k15 true (y48.Kind==5) true
 else (cn a1 n13).bind fun x51=>(dD ah x51).bind fun y53=>k15 true (y48.Kind==5) (y53.Kind==4)
 else (cn a1 n13).bind fun x55=>(dD ah x55).bind fun y57=>if b11=true then if b12=true then k15 (y57.Kind==3) true true
 else (cn a1 n13).bind fun x61=>(dD ah x61).bind fun y63=>k15 (y57.Kind==3) true (y63.Kind==4)
 else (cn a1 n13).bind fun x65=>(dD ah x65).bind fun y67=>if b12=true then k15 (y57.Kind==3) (y67.Kind==5) true
 else (cn a1 n13).bind fun x70=>(dD ah x70).bind fun y72=>k15 (y57.Kind==3) (y67.Kind==5) (y72.Kind==4))
def LA(F:Nat)(a1:(List aM)):Option (Bool×Bool×Bool):=
 jn (fun(b3:Bool) (b4:Bool) (b5:Bool)=>some (b3,b4,b5)) (fun k2=>lX F a1 k2 ((((a1.length:Nat):Int):Int).toNat) 0 false false false)
def gk(F:Nat)(y16:(List aM))(k18:Int->Option Bool):List aM->Int->Int->Option Bool
  |[],n23,n22=>k18 n22
  |x25::tl2,n23,n22=>(dD ah x25).bind fun y27=>jn (fun(n30:Int)=>gk F y16 k18 tl2 (n23+1) n30) (fun k29=>if (y27.Kind==2)=true then (cn y16 n23).bind fun x32=>(dD ah x32).bind fun y34=>k29 (bh (n22+((y34.Texts.length:Nat):Int)))
 else if (y27.Kind==3)=true then (cn y16 n23).bind fun x37=>(dD ah x37).bind fun y39=>k29 (bh (n22+(bh (2*((y39.Texts.length:Nat):Int)))))
 else if (y27.Kind==5)=true then k29 (bh (n22+2))
 else k29 n22)
def iR(F:Nat)(a1:aC)(y2:(List B8))(k4:Int->Option Bool):Nat->Int->Int->Option Bool
 |0,_,_=>none
 |n+1,n8,n9=>if (decide (n9<((y2.length:Nat):Int)))=true then if (decide (n8<=200000))=true then jn (fun(n13:Int)=>iR F a1 y2 k4 n n13 (bh (n9+1))) (fun k12=>(cn y2 n9).bind fun x14=>(Mo F a1 x14).bind fun y16=>jn (fun(n19:Int)=>(LA F y16).bind fun y43=>if (y43.2.2)=true then k12 (bh (n8*(bh (n19+1))))
 else if (y43.1)=true then jn (fun(n48:Int)=>k12 (bh (n8*n48))) (fun k47=>if (y43.2.1)=true then k47 (bh (n19+1))
 else k47 n19)
 else k12 (bh (n8*n19))) (fun k18=>gk F y16 k18 y16 0 2))
 else k4 n8
 else k4 n8
def NP(F:Nat)(a1:aC):Option Bool:=
 (C8 F a1 ([]:List B8)).bind fun y2=>jn (fun(n5:Int)=>some (decide (n5>200000))) (fun k4=>iR F a1 y2 k4 F 1 0)
def mg(F:Nat)(a1:(List B8))(a2:B8)(k3:(List B8)->Option (List B8)):List B8->Int->(List B8)->Option (List B8)
  |[],n7,l8=>k3 l8
  |x10::tl1,n7,l8=>jn (fun(l13:List B8)=>mg F a1 a2 k3 tl1 (n7+1) l13) (fun k12=>if (!(x10==a2))=true then (cn a1 n7).bind fun x15=>if (l8++([x15]:List B8)).length*16<=140737488355328 then k12 (l8++([x15]:List B8)) else none
 else k12 l8)
def NL(F:Nat)(a1:(List B8))(a2:B8):Option (List B8):=
 jn (fun(l4:List B8)=>some l4) (fun k3=>mg F a1 a2 k3 a1 0 ([]:List B8))
def mc(F:Nat)(a1:bC)(a2:B8)(k22:Bool->Int->Option ab):Nat->Int->Bool->Int->Option ab
  |0,n28,b29,n30=>k22 b29 n30
  |tl2+1,n28,b29,n30=>(cn a1.Numbers n28).bind fun x32=>jn (fun(b35:Bool) (n36:Int)=>mc F a1 a2 k22 tl2 (n28+1) b35 n36) (fun k34=>if (x32.Name==a2)=true then (cn a1.Numbers n28).bind fun x38=>k34 true x38.N
 else k34 b29 n30)
def md(F:Nat)(a1:bC)(a2:B8)(k3:Bool->B8->Option ab):Nat->Int->Bool->B8->Option ab
  |0,n9,b10,s11=>k3 b10 s11
  |tl1+1,n9,b10,s11=>(cn a1.Texts n9).bind fun x13=>jn (fun(b16:Bool) (s17:B8)=>md F a1 a2 k3 tl1 (n9+1) b16 s17) (fun k15=>if (x13.Name==a2)=true then (cn a1.Texts n9).bind fun x19=>k15 true x19.Value
 else k15 b10 s11)
def Mp(F:Nat)(a1:bC)(a2:B8):Option ab:=
 jn (fun(b4:Bool) (s5:B8)=>jn (fun(b23:Bool) (n24:Int)=>some (ab.mk b4 b23 s5 n24)) (fun k22=>if ((a1.Numbers.length:Nat):Int)<=9223372036854775807 then mc F a1 a2 k22 ((((a1.Numbers.length:Nat):Int):Int).toNat) 0 false 0 else none)) (fun k3=>if ((a1.Texts.length:Nat):Int)<=9223372036854775807 then md F a1 a2 k3 ((((a1.Texts.length:Nat):Int):Int).toNat) 0 false ([]:B8) else none)
def GX(F:Nat)(a1:Int)(a2:Int)(a3:Int):Option Bool:=
 if (a1==1)=true then some (decide (a2<a3))
 else if (a1==2)=true then some (decide (a2<=a3))
 else if (a1==3)=true then some (a2==a3)
 else if (a1==4)=true then some (decide (a2>=a3))
 else some (decide (a2>a3))
def IY(F:Nat)(a1:B8)(a2:B8):Option Bool:=
 if (decide ((a1.length:Int)>=(a2.length:Int)))=true then if 0<=(a2.length:Int)/\(a2.length:Int).toNat<=a1.length then some ((a1.take (a2.length:Int).toNat)==a2) else none
 else some false
def jh(F:Nat)(a1:aC)(a2:ab)(k9:Option Bool):Nat->Int->Option Bool
 |0,_=>none
 |n+1,n11=>if (decide (n11<((a1.Texts.length:Nat):Int)))=true then if a2.isText=true then jn (fun(b15:Bool)=>jh F a1 a2 k9 n (bh (n11+1))) (fun k14=>(cn a1.Texts n11).bind fun x16=>if (x16==a2.text)=true then some true
 else if (a1.Kind==3)=true then (cn a1.Texts n11).bind fun x20=>(IY F a2.text x20).bind fun y22=>if y22=true then some true
 else k14 y22
 else k14 false)
 else k9
 else k9
def AS(F:Nat)(a1:aC)(a2:ab):Option Bool:=
 if (a1.Kind==4)=true then if a2.isText=true then some true
 else some (a2.isNumber)
 else if (a1.Kind==5)=true then if a2.isNumber=true then (GX F a1.Op a2.number a1.N).bind fun y7=>some y7
 else some false
 else jn (some false) (fun k9=>jh F a1 a2 k9 F 0)
def mf(R53:aC->bC->Option Bool)(F:Nat)(a1:aC)(a2:bC)(k16:Option Bool):Nat->Int->Option Bool
  |0,n18=>k16
  |tl1+1,n18=>(cn a1.Kids n18).bind fun x20=>(dD ah x20).bind fun y22=>(R53 y22 a2).bind fun y24=>if (y24 != (a1.Kind==7))=true then some (a1.Kind==8)
 else mf R53 F a1 a2 k16 tl1 (n18+1)
def yU(R53:aC->bC->Option Bool)(F:Nat)(a1:aC)(a2:bC):Option Bool:=
 jn ((Mp F a2 a1.Name).bind fun y28=>(AS F a1 y28).bind fun y30=>some y30) (fun k3=>if (a1.Kind==1)=true then some true
 else if (a1.Kind==6)=true then (cn a1.Kids 0).bind fun x6=>(dD ah x6).bind fun y8=>(R53 y8 a2).bind fun y10=>some (!y10)
 else jn (fun(b13:Bool)=>if b13=true then jn (some (a1.Kind==7)) (fun k16=>if ((a1.Kids.length:Nat):Int)<=9223372036854775807 then mf R53 F a1 a2 k16 ((((a1.Kids.length:Nat):Int):Int).toNat) 0 else none)
 else k3) (fun k12=>if (a1.Kind==7)=true then k12 (a1.Kind==7)
 else k12 (a1.Kind==8)))
def GN:Nat->aC->bC->Option Bool
 |0,_,_=>none
 |F+1,a1,a2=>yU (GN F) F a1 a2
def Oh(F:Nat)(a1:aC):Option aC:=
 some (aC.mk 6 ([]:B8) ([]:List B8) 0 0 ([tH ah a1]:List aM))
def LN(F:Nat)(a1:(List B8))(a2:B8):Option Bool:=
 (zb F a1 a2).bind fun y3=>some (y3.2)
def gw(F:Nat)(a2:(List B8))(x10:B8)(k16:(List B8)->Option (B8×Bool)):Nat->Int->(List B8)->Option (B8×Bool)
 |0,_,_=>none
 |n+1,n20,l21=>if (decide (n20<=126))=true then if (decide ((x10.length:Int)<1000))=true then if x10.length+(([n20]:List Int).map fun n=>UInt8.ofNat n.toNat).length<=9223372036854775807 then (LN F a2 (x10++(([n20]:List Int).map fun n=>UInt8.ofNat n.toNat))).bind fun y25=>jn (fun(l28:List B8)=>gw F a2 x10 k16 n (IntKind.wrap .u8 (n20+1)) l28) (fun k27=>if (!y25)=true then if (l21++([(x10++(([n20]:List Int).map fun n=>UInt8.ofNat n.toNat))]:List B8)).length*16<=140737488355328 then k27 (l21++([(x10++(([n20]:List Int).map fun n=>UInt8.ofNat n.toNat))]:List B8)) else none
 else k27 l21) else none
 else k16 l21
 else k16 l21
def hJ(F:Nat)(a2:(List B8))(a3:(List B8))(k4:Option (B8×Bool)):Nat->(List B8)->Option (B8×Bool)
 |0,_=>none
 |n+1,l6=>if (decide (((l6.length:Nat):Int)>0))=true then jn (fun(l9:List B8)=>hJ F a2 a3 k4 n l9) (fun k8=>(cn l6 0).bind fun x10=>if 1<=l6.length then (LN F a3 x10).bind fun y13=>if (!y13)=true then some (x10,true)
 else jn (fun(l17:List B8)=>k8 l17) (fun k16=>gw F a2 x10 k16 F 32 (l6.drop 1)) else none)
 else k4
def AP(F:Nat)(a1:B8)(a2:(List B8))(a3:(List B8)):Option (B8×Bool):=
 jn (some (([]:B8),false)) (fun k4=>hJ F a2 a3 k4 F ([a1]:List B8))
def hX(F:Nat)(l3:List B8)(l4:List B8)(k57:(List B8)->Option (List B8)):List B8->(List B8)->Option (List B8)
  |[],l62=>k57 l62
  |x64::tl3,l62=>(AP F x64 l4 l3).bind fun y66=>jn (fun(l69:List B8)=>hX F l3 l4 k57 tl3 l69) (fun k68=>if (y66.2)=true then if (l62++([(y66.1)]:List B8)).length*16<=140737488355328 then k68 (l62++([(y66.1)]:List B8)) else none
 else k68 l62)
def kE(F:Nat)(a1:(List aM))(n10:Int)(k15:(List B8)->(List B8)->Option (List B8)):Nat->(List B8)->(List B8)->Int->Option (List B8)
 |0,_,_,_=>none
 |n+1,l21,l22,n23=>(cn a1 n10).bind fun x24=>(dD ah x24).bind fun y26=>if (decide (n23<((y26.Texts.length:Nat):Int)))=true then (cn a1 n10).bind fun x29=>(dD ah x29).bind fun y31=>jn (fun(l34:List B8) (l35:List B8)=>kE F a1 n10 k15 n l34 l35 (bh (n23+1))) (fun k33=>if (y31.Kind==2)=true then (cn a1 n10).bind fun x37=>(dD ah x37).bind fun y39=>(cn y39.Texts n23).bind fun x41=>(xe F l21 x41).bind fun y43=>k33 y43 l22
 else (cn a1 n10).bind fun x45=>(dD ah x45).bind fun y47=>(cn y47.Texts n23).bind fun x49=>(xe F l22 x49).bind fun y51=>k33 l21 y51)
 else k15 l21 l22
def ia(F:Nat)(a1:(List aM))(k2:(List B8)->(List B8)->Option (List B8)):Nat->Int->(List B8)->(List B8)->Option (List B8)
 |0,n10,l8,l9=>k2 l8 l9
 |tl1+1,n10,l8,l9=>jn (fun(l13:List B8) (l14:List B8)=>ia F a1 k2 tl1 (n10+1) l13 l14) (fun k12=>jn (fun(l16:List B8) (l17:List B8)=>k12 l16 l17) (fun k15=>kE F a1 n10 k15 F l8 l9 0))
def AQ(F:Nat)(a1:(List aM)):Option (List B8):=
 jn (fun(l3:List B8) (l4:List B8)=>if l3.length*16<=140737488355328 then (xe F l4 ([]:B8)).bind fun y55=>jn (fun(l58:List B8)=>some l58) (fun k57=>hX F l3 l4 k57 y55 l3) else none) (fun k2=>ia F a1 k2 ((((a1.length:Nat):Int):Int).toNat) 0 ([]:List B8) ([]:List B8))
def jc(F:Nat)(a1:(List Int))(a2:Int)(k3:(List Int)->Option (List Int)):List Int->Int->(List Int)->Option (List Int)
  |[],n7,l8=>k3 l8
  |x10::tl1,n7,l8=>if (x10==a2)=true then some a1
 else (cn a1 n7).bind fun x13=>if (decide (x13>a2))=true then if (l8++([a2]:List Int)).length*8<=140737488355328 then if 0<=n7/\n7.toNat<=a1.length then if ((l8++([a2]:List Int))++(a1.drop n7.toNat)).length*8<=140737488355328 then some ((l8++([a2]:List Int))++(a1.drop n7.toNat)) else none else none else none
 else (cn a1 n7).bind fun x19=>if (l8++([x19]:List Int)).length*8<=140737488355328 then jc F a1 a2 k3 tl1 (n7+1) (l8++([x19]:List Int)) else none
def GU(F:Nat)(a1:(List Int))(a2:Int):Option (List Int):=
 jn (fun(l4:List Int)=>if (l4++([a2]:List Int)).length*8<=140737488355328 then some (l4++([a2]:List Int)) else none) (fun k3=>jc F a1 a2 k3 a1 0 ([]:List Int))
def gx(F:Nat)(l3:List Int)(k24:(List Int)->Option (List Int)):List Int->Int->(List Int)->Option (List Int)
  |[],n28,l29=>k24 l29
  |x33::tl2,n28,l29=>jn (fun(l32:List Int)=>gx F l3 k24 tl2 (n28+1) l32) (fun k31=>if (decide ((bh (x33 - 1))>=(-1000000000000)))=true then if (n28==0)=true then if (l29++([(bh (x33 - 1))]:List Int)).length*8<=140737488355328 then (cn l3 n28).bind fun x38=>if ((l29++([(bh (x33 - 1))]:List Int))++([x38]:List Int)).length*8<=140737488355328 then k31 ((l29++([(bh (x33 - 1))]:List Int))++([x38]:List Int)) else none else none
 else (cn l3 (bh (n28 - 1))).bind fun x41=>jn (fun(l44:List Int)=>(cn l3 n28).bind fun x47=>if (l44++([x47]:List Int)).length*8<=140737488355328 then k31 (l44++([x47]:List Int)) else none) (fun k43=>if (decide (x41<(bh (x33 - 1))))=true then if (l29++([(bh (x33 - 1))]:List Int)).length*8<=140737488355328 then k43 (l29++([(bh (x33 - 1))]:List Int)) else none
 else k43 l29)
 else (cn l3 n28).bind fun x50=>if (l29++([x50]:List Int)).length*8<=140737488355328 then k31 (l29++([x50]:List Int)) else none)
def je(F:Nat)(a1:(List aM))(k2:(List Int)->Option (List Int)):List aM->Int->(List Int)->Option (List Int)
  |[],n7,l6=>k2 l6
  |x9::tl1,n7,l6=>(dD ah x9).bind fun y11=>jn (fun(l14:List Int)=>je F a1 k2 tl1 (n7+1) l14) (fun k13=>if (y11.Kind==5)=true then (cn a1 n7).bind fun x16=>(dD ah x16).bind fun y18=>(GU F l6 y18.N).bind fun y20=>k13 y20
 else k13 l6)
def xc(F:Nat)(a1:(List aM)):Option (List Int):=
 jn (fun(l3:List Int)=>if (((l3.length:Nat):Int)==0)=true then some ([0]:List Int)
 else jn (fun(l25:List Int)=>(cn l3 (bh (((l3.length:Nat):Int) - 1))).bind fun x54=>jn (fun(l57:List Int)=>some l57) (fun k56=>if (decide ((bh (x54+1))<=1000000000000))=true then if (l25++([(bh (x54+1))]:List Int)).length*8<=140737488355328 then k56 (l25++([(bh (x54+1))]:List Int)) else none
 else k56 l25)) (fun k24=>gx F l3 k24 l3 0 ([]:List Int))) (fun k2=>je F a1 k2 a1 0 ([]:List Int))
def jg(F:Nat)(y5:(List B8))(y8:(List Int))(n36:Int)(k41:(List ab)->Option (List ab)):Nat->Int->(List ab)->Option (List ab)
 |0,n45,l46=>k41 l46
 |tl4+1,n45,l46=>(cn y5 n36).bind fun x48=>(cn y8 n45).bind fun x50=>if (l46++([(ab.mk true true x48 x50)]:List ab)).length*32<=140737488355328 then jg F y5 y8 n36 k41 tl4 (n45+1) (l46++([(ab.mk true true x48 x50)]:List ab)) else none
def ig(F:Nat)(y5:(List B8))(y8:(List Int))(k32:(List ab)->Option (List ab)):Nat->Int->(List ab)->Option (List ab)
 |0,n36,l37=>k32 l37
 |tl3+1,n36,l37=>jn (fun(l40:List ab)=>ig F y5 y8 k32 tl3 (n36+1) l40) (fun k39=>jn (fun(l42:List ab)=>k39 l42) (fun k41=>jg F y5 y8 n36 k41 ((((y8.length:Nat):Int):Int).toNat) 0 l37))
def cX(F:Nat)(k21:(List ab)->Option (List ab)):List Int->(List ab)->Option (List ab)
 |[],l26=>k21 l26
 |x28::tl2,l26=>if (l26++([(ab.mk false true ([]:B8) x28)]:List ab)).length*32<=140737488355328 then cX F k21 tl2 (l26++([(ab.mk false true ([]:B8) x28)]:List ab)) else none
def cY(F:Nat)(k10:(List ab)->Option (List ab)):List B8->(List ab)->Option (List ab)
 |[],l15=>k10 l15
 |x17::tl1,l15=>if (l15++([(ab.mk true false x17 0)]:List ab)).length*32<=140737488355328 then cY F k10 tl1 (l15++([(ab.mk true false x17 0)]:List ab)) else none
def zc(F:Nat)(a1:(List aM)):Option (List ab):=
 (LA F a1).bind fun y2=>if (y2.1)=true then (AQ F a1).bind fun y5=>if (y2.2.1)=true then (xc F a1).bind fun y8=>jn (fun(l11:List ab)=>jn (fun(l22:List ab)=>jn (fun(l33:List ab)=>some l33) (fun k32=>ig F y5 y8 k32 ((((y5.length:Nat):Int):Int).toNat) 0 l22)) (fun k21=>cX F k21 y8 l11)) (fun k10=>cY F k10 y5 ([(ab.mk false false ([]:B8) 0)]:List ab))
 else jn (fun(l56:List Int)=>jn (fun(l61:List ab)=>jn (fun(l72:List ab)=>some l72) (fun k71=>cX F k71 l56 l61)) (fun k60=>cY F k60 y5 ([(ab.mk false false ([]:B8) 0)]:List ab))) (fun k55=>if (y2.2.2)=true then (xc F a1).bind fun y58=>k55 y58
 else k55 ([]:List Int))
 else jn (fun(l83:List B8)=>if (y2.2.1)=true then (xc F a1).bind fun y88=>jn (fun(l91:List ab)=>jn (fun(l102:List ab)=>some l102) (fun k101=>cX F k101 y88 l91)) (fun k90=>cY F k90 l83 ([(ab.mk false false ([]:B8) 0)]:List ab))
 else jn (fun(l113:List Int)=>jn (fun(l118:List ab)=>jn (fun(l129:List ab)=>some l129) (fun k128=>cX F k128 l113 l118)) (fun k117=>cY F k117 l83 ([(ab.mk false false ([]:B8) 0)]:List ab))) (fun k112=>if (y2.2.2)=true then (xc F a1).bind fun y115=>k112 y115
 else k112 ([]:List Int))) (fun k82=>if (y2.2.2)=true then (AQ F a1).bind fun y85=>k82 y85
 else k82 ([]:List B8))
def me(F:Nat)(a1:aC)(k27:(List (List ab))->Option ((List B8)×(List (List ab))×(List Bool)×(List ab))):List B8->(List (List ab))->Option ((List B8)×(List (List ab))×(List Bool)×(List ab))
 |[],l32=>k27 l32
 |x34::tl1,l32=>(Mo F a1 x34).bind fun y36=>(zc F y36).bind fun y38=>if (l32++([y38]:List (List ab))).length*24<=140737488355328 then me F a1 k27 tl1 (l32++([y38]:List (List ab))) else none
def LP(F:Nat)(a1:aC):Option ((List B8)×(List (List ab))×(List Bool)×(List ab)):=
 (C8 F a1 ([]:List B8)).bind fun y25=>jn (fun(l28:List (List ab))=>if 0<=((y25.length:Nat):Int)/\((1:Nat):Int)*((y25.length:Nat):Int)<=140737488355328/\((y25.length:Nat):Int)<=140737488355328 then if 0<=((y25.length:Nat):Int)/\((32:Nat):Int)*((y25.length:Nat):Int)<=140737488355328/\((y25.length:Nat):Int)<=140737488355328 then some (y25,l28,(List.replicate (((y25.length:Nat):Int)).toNat (false:Bool)),(List.replicate (((y25.length:Nat):Int)).toNat ((ab.mk false false ([]:B8) 0):ab))) else none else none) (fun k27=>me F a1 k27 y25 ([]:List (List ab)))
def Db(F:Nat)(a1:Bool):Option Int:=
 if a1=true then some 1
 else some 0
def eI(R126:aQ->aC->Option Int)(F:Nat)(a1:aQ)(a2:aC)(y17:Int)(k19:Int->Option Int):Nat->Int->Int->Option Int
  |0,n24,n23=>k19 n23
  |tl1+1,n24,n23=>(cn a2.Kids n24).bind fun x26=>(dD ah x26).bind fun y28=>(R126 a1 y28).bind fun y30=>if (y30==y17)=true then some y17
 else jn (fun(n34:Int)=>eI R126 F a1 a2 y17 k19 tl1 (n24+1) n34) (fun k33=>if (y30==2)=true then k33 2
 else k33 n23)
def tm(R126:aQ->aC->Option Int)(F:Nat)(a1:aQ)(a2:aC):Option Int:=
 jn ((zb F a1.names a2.Name).bind fun y37=>(cn a1.settled (y37.1)).bind fun x39=>if (!x39)=true then some 2
 else (cn a1.is (y37.1)).bind fun x42=>(AS F a2 x42).bind fun y44=>(Db F y44).bind fun y46=>some y46) (fun k3=>if (a2.Kind==1)=true then some 1
 else if (a2.Kind==6)=true then (cn a2.Kids 0).bind fun x6=>(dD ah x6).bind fun y8=>(R126 a1 y8).bind fun y10=>if (y10==2)=true then some 2
 else some (bh (1 - y10))
 else jn (fun(b14:Bool)=>if b14=true then (Db F (a2.Kind==8)).bind fun y17=>jn (fun(n20:Int)=>some n20) (fun k19=>if ((a2.Kids.length:Nat):Int)<=9223372036854775807 then eI R126 F a1 a2 y17 k19 ((((a2.Kids.length:Nat):Int):Int).toNat) 0 (bh (1 - y17)) else none)
 else k3) (fun k13=>if (a2.Kind==7)=true then k13 (a2.Kind==7)
 else k13 (a2.Kind==8)))
def tY:Nat->aQ->aC->Option Int
 |0,_,_=>none
 |F+1,a1,a2=>tm (tY F) F a1 a2
def jf(F:Nat)(a1:aQ)(k2:Int->Int->Option Bool):Nat->Int->Int->Int->Option Bool
  |0,n10,n8,n9=>k2 n8 n9
  |tl1+1,n10,n8,n9=>jn (fun(n13:Int) (n14:Int)=>jf F a1 k2 tl1 (n10+1) n13 n14) (fun k12=>(cn a1.settled n10).bind fun x15=>if x15=true then (cn a1.is n10).bind fun x18=>jn (fun(n21:Int)=>(cn a1.settled n10).bind fun x23=>if x23=true then (cn a1.is n10).bind fun x26=>jn (fun(n29:Int)=>k12 n21 n29) (fun k28=>if x26.isNumber=true then k28 (bh (n9+1))
 else k28 n9)
 else k12 n21 n9) (fun k20=>if x18.isText=true then k20 (bh (n8+1))
 else k20 n8)
 else (cn a1.settled n10).bind fun x31=>if x31=true then (cn a1.is n10).bind fun x34=>jn (fun(n37:Int)=>k12 n8 n37) (fun k36=>if x34.isNumber=true then k36 (bh (n9+1))
 else k36 n9)
 else k12 n8 n9)
def G0(F:Nat)(a1:aQ):Option Bool:=
 jn (fun(n3:Int) (n4:Int)=>if (decide (n3<=30))=true then some (decide (n4<=30))
 else some false) (fun k2=>if ((a1.names.length:Nat):Int)<=9223372036854775807 then jf F a1 k2 ((((a1.names.length:Nat):Int):Int).toNat) 0 0 0 else none)
def gM(R85:Int->Int->B8->(List B8)->Int->Int->(List aM)->(List B8)->(List (List ab))->(List Bool)->(List ab)->Option (Bool×(List Bool)×(List ab)))(F:Nat)(a2:Int)(a3:B8)(a4:(List B8))(a5:Int)(a6:Int)(a7:(List aM))(a8:(List B8))(a9:List (List ab))(n65:Int)(k73:(List Bool)->(List ab)->Option (Bool×(List Bool)×(List ab))):Nat->Int->(List Bool)->(List ab)->Option (Bool×(List Bool)×(List ab))
 |0,_,_,_=>none
 |n+1,n79,l80,l81=>(cn a9 n65).bind fun x82=>if (decide (n79<((x82.length:Nat):Int)))=true then (cn a9 n65).bind fun x85=>(cn x85 n79).bind fun x87=>(cn l81 n65).bind fun x89=>(R85 (bh (n65+1)) a2 a3 a4 a5 a6 a7 a8 a9 l80 (l81.set n65.toNat x87)).bind fun y91=>if (y91.2.2).length=l81.length then if (y91.1)=true then some (true,(y91.2.1),(y91.2.2))
 else gM R85 F a2 a3 a4 a5 a6 a7 a8 a9 n65 k73 n (bh (n79+1)) (y91.2.1) (y91.2.2) else none
 else k73 l80 l81
def ky(F:Nat)(a10:List Bool)(k64:Int->Option (Bool×(List Bool)×(List ab))):Nat->Int->Option (Bool×(List Bool)×(List ab))
 |0,_=>none
 |n+1,n67=>(cn a10 n67).bind fun x68=>if x68=true then ky F a10 k64 n (bh (n67+1))
 else k64 n67
def ta(R85:Int->Int->B8->(List B8)->Int->Int->(List aM)->(List B8)->(List (List ab))->(List Bool)->(List ab)->Option (Bool×(List Bool)×(List ab)))(F:Nat)(a1:Int)(a2:Int)(a3:B8)(a4:(List B8))(a5:Int)(a6:Int)(a7:(List aM))(a8:(List B8))(a9:List (List ab))(a10:List Bool)(a11:List ab):Option (Bool×(List Bool)×(List ab)):=
 (tY F (aQ.mk (aC.mk a2 a3 a4 a5 a6 a7) a8 a9 a10 a11) (aC.mk a2 a3 a4 a5 a6 a7)).bind fun y57=>if (y57==0)=true then some (false,a10,a11)
 else (G0 F (aQ.mk (aC.mk a2 a3 a4 a5 a6 a7) a8 a9 a10 a11)).bind fun y60=>if (!y60)=true then some (false,a10,a11)
 else if (y57==1)=true then some (true,a10,a11)
 else jn (fun(n65:Int)=>(cn a10 n65).bind fun x71=>jn (fun(l74:List Bool) (l75:List ab)=>(cn l74 n65).bind fun x95=>(cn l75 n65).bind fun x97=>some (false,(l74.set n65.toNat false),(l75.set n65.toNat (ab.mk false false ([]:B8) 0)))) (fun k73=>gM R85 F a2 a3 a4 a5 a6 a7 a8 a9 n65 k73 F 0 (a10.set n65.toNat true) a11)) (fun k64=>ky F a10 k64 F a1)
def yT:Nat->Int->Int->B8->(List B8)->Int->Int->(List aM)->(List B8)->(List (List ab))->(List Bool)->(List ab)->Option (Bool×(List Bool)×(List ab))
 |0,_,_,_,_,_,_,_,_,_,_,_=>none
 |F+1,a1,a2,a3,a4,a5,a6,a7,a8,a9,a10,a11=>ta (yT F) F a1 a2 a3 a4 a5 a6 a7 a8 a9 a10 a11
def jv(F:Nat)(a2:bC)(a3:(List B8))(y16:((List B8)×(List (List ab))×(List Bool)×(List ab)))(k18:(List Bool)->(List ab)->Option Bool):Nat->Int->(List Bool)->(List ab)->Option Bool
  |0,n24,l25,l26=>k18 l25 l26
  |tl1+1,n24,l25,l26=>(cn (y16.1) n24).bind fun x28=>(LN F a3 x28).bind fun y30=>jn (fun(l33:List Bool) (l34:List ab)=>jv F a2 a3 y16 k18 tl1 (n24+1) l33 l34) (fun k32=>if y30=true then (cn (y16.1) n24).bind fun x36=>(Mp F a2 x36).bind fun y38=>(cn l25 n24).bind fun x40=>(cn l26 n24).bind fun x42=>k32 (l25.set n24.toNat true) (l26.set n24.toNat y38)
 else k32 l25 l26)
def NU(F:Nat)(a1:aC)(a2:bC)(a3:(List B8)):Option Bool:=
 (GN F a1 a2).bind fun y4=>jn (fun(n7:Int) (s8:B8) (l9:List B8) (n10:Int) (n11:Int) (l12:List aM)=>(LP F (aC.mk n7 s8 l9 n10 n11 l12)).bind fun y16=>jn (fun(l19:List Bool) (l20:List ab)=>(yT F 0 n7 s8 l9 n10 n11 l12 (y16.1) (y16.2.1) l19 l20).bind fun y45=>some (!(y45.1))) (fun k18=>if (((y16.1).length:Nat):Int)<=9223372036854775807 then jv F a2 a3 y16 k18 (((((y16.1).length:Nat):Int):Int).toNat) 0 (y16.2.2.1) (y16.2.2.2) else none)) (fun k6=>if y4=true then (Oh F a1).bind fun y14=>k6 y14.Kind y14.Name y14.Texts y14.Op y14.N y14.Kids
 else k6 a1.Kind a1.Name a1.Texts a1.Op a1.N a1.Kids)
def mr(F:Nat)(a1:aC)(a2:bC)(k14:(List B8)->Option ((List B8)×Bool×Int)):List B8->(List B8)->Option ((List B8)×Bool×Int)
  |[],l18=>k14 l18
  |x21::tl1,l18=>(NL F l18 x21).bind fun y23=>(NU F a1 a2 y23).bind fun y25=>jn (fun(l28:List B8)=>mr F a1 a2 k14 tl1 l28) (fun k27=>if y25=true then k27 y23
 else k27 l18)
def IV(F:Nat)(a1:aC)(a2:bC):Option ((List B8)×Bool×Int):=
 (NQ F a1).bind fun y3=>if (y3 != 0)=true then some (([]:List B8),false,y3)
 else (NV F a2).bind fun y6=>if (y6 != 0)=true then some (([]:List B8),false,y6)
 else (NP F a1).bind fun y9=>if y9=true then some (([]:List B8),false,3)
 else (C8 F a1 ([]:List B8)).bind fun y12=>jn (fun(l15:List B8)=>(GN F a1 a2).bind fun y31=>some (l15,y31,0)) (fun k14=>mr F a1 a2 k14 y12 y12)
def mq(F:Nat)(a2:(List B8))(k4:Option Bool):List B8->Int->Option Bool
  |[],n6=>k4
  |x8::tl1,n6=>(cn a2 n6).bind fun x10=>if (!(x8==x10))=true then some false
 else mq F a2 k4 tl1 (n6+1)
def NW(F:Nat)(a1:(List B8))(a2:(List B8)):Option Bool:=
 if (((a1.length:Nat):Int) != ((a2.length:Nat):Int))=true then some false
 else jn (some true) (fun k4=>mq F a2 k4 a1 0)
def NX(F:Nat):Option Bool:=some true
def M4(F:Nat)(a1:aC)(a2:bC):Option Bool:=
 (IW F a1 a2).bind fun y3=>(IV F a1 a2).bind fun y5=>(NW F (y3.1) (y5.1)).bind fun y7=>if y7=true then if ((y3.2.1)==(y5.2.1))=true then if ((y3.2.2)==(y5.2.2))=true then (NX F).bind fun y12=>some y12
 else some false
 else some false
 else some false
end
end Go.Proofs.YtelmfadihfcgnaaGreatDoor
