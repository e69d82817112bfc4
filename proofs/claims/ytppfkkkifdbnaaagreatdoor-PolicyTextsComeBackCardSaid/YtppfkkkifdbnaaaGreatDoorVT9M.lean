/- Part of the proof. -/
import Derived.Test.YtppfkkkifdbnaaaGreatDoorVT9T
set_option linter.unusedSimpArgs false
set_option linter.unusedVariables false
namespace Go.Proofs.YtppfkkkifdbnaaaGreatDoor
open Go Go.Pv
set_option maxRecDepth 100000
noncomputable section
def M59(F:Nat)(a1:(List UInt8)):Option Bool:=
 jn (fun(b3:Bool)=>if b3=true then some true
 else some false) (fun k2=>if (a1==([114,117,108,101]:List UInt8))=true then k2 (a1==([114,117,108,101]:List UInt8))
 else if (a1==([97,98,111,117,116]:List UInt8))=true then k2 (a1==([97,98,111,117,116]:List UInt8))
 else if (a1==([119,104,101,110]:List UInt8))=true then k2 (a1==([119,104,101,110]:List UInt8))
 else if (a1==([119,97,105,118,101]:List UInt8))=true then k2 (a1==([119,97,105,118,101]:List UInt8))
 else if (a1==([102,111,114]:List UInt8))=true then k2 (a1==([102,111,114]:List UInt8))
 else if (a1==([102,114,111,109]:List UInt8))=true then k2 (a1==([102,114,111,109]:List UInt8))
 else if (a1==([116,111]:List UInt8))=true then k2 (a1==([116,111]:List UInt8))
 else if (a1==([98,121]:List UInt8))=true then k2 (a1==([98,121]:List UInt8))
 else if (a1==([97,115]:List UInt8))=true then k2 (a1==([97,115]:List UInt8))
 else if (a1==([112,97,115,115]:List UInt8))=true then k2 (a1==([112,97,115,115]:List UInt8))
 else if (a1==([110,111,116,101]:List UInt8))=true then k2 (a1==([110,111,116,101]:List UInt8))
 else if (a1==([119,97,114,110]:List UInt8))=true then k2 (a1==([119,97,114,110]:List UInt8))
 else if (a1==([100,101,110,121]:List UInt8))=true then k2 (a1==([100,101,110,121]:List UInt8))
 else if (a1==([111,114]:List UInt8))=true then k2 (a1==([111,114]:List UInt8))
 else if (a1==([97,110,100]:List UInt8))=true then k2 (a1==([97,110,100]:List UInt8))
 else if (a1==([116,114,117,101]:List UInt8))=true then k2 (a1==([116,114,117,101]:List UInt8))
 else if (a1==([105,115]:List UInt8))=true then k2 (a1==([105,115]:List UInt8))
 else if (a1==([98,101,103,105,110,115]:List UInt8))=true then k2 (a1==([98,101,103,105,110,115]:List UInt8))
 else if (a1==([104,97,115]:List UInt8))=true then k2 (a1==([104,97,115]:List UInt8))
 else k2 (a1==([110,111,116]:List UInt8)))
def M30_L1(F:Nat)(a1:(List UInt8))(k2:Option Bool):Nat->Int->Option Bool
  |0,n4=>k2
  |tl1+1,n4=>jn (M30_L1 F a1 k2 tl1 (n4+1)) (fun k6=>(idx a1 n4).bind fun c7=>if (decide ((c7.toNat:Int)>=97))=true then if (decide ((c7.toNat:Int)<=122))=true then k6
 else if (decide (n4>0))=true then if (decide ((c7.toNat:Int)>=48))=true then if (decide ((c7.toNat:Int)<=57))=true then k6
 else if (!((c7.toNat:Int)==45))=true then some false
 else k6
 else if (!((c7.toNat:Int)==45))=true then some false
 else k6
 else some false
 else if (decide (n4>0))=true then if (decide ((c7.toNat:Int)>=48))=true then if (decide ((c7.toNat:Int)<=57))=true then k6
 else if (!((c7.toNat:Int)==45))=true then some false
 else k6
 else if (!((c7.toNat:Int)==45))=true then some false
 else k6
 else some false)
def M30(F:Nat)(a1:(List UInt8)):Option Bool:=
 jn (if (!(a1==([]:List UInt8)))=true then if (decide ((a1.length:Int)<=40))=true then (M59 F a1).bind fun y24=>some (!y24)
 else some false
 else some false) (fun k2=>if (a1.length:Int)<=9223372036854775807 then M30_L1 F a1 k2 (((a1.length:Int):Int).toNat) 0 else none)
def M60_L1(R60:TTest->Int->Option (Int×Int))(F:Nat)(a2:Int)(k4:Int->Int->Option (Int×Int)):List KRow->Int->Int->Option (Int×Int)
 |[],n10,n11=>k4 n10 n11
 |x14::tl1,n10,n11=>(kdec encTTest x14).bind fun y16=>(R60 y16 (w64 (a2+1))).bind fun y18=>M60_L1 R60 F a2 k4 tl1 (if 61<(w64 (n10+(y18.1))) then 61 else (w64 (n10+(y18.1)))) (if (y18.2)>n11 then (y18.2) else n11)
def M60_B(R60:TTest->Int->Option (Int×Int))(F:Nat)(a1:TTest)(a2:Int):Option (Int×Int):=
 if (decide (a2>12))=true then some (1,a2)
 else jn (fun(n5:Int) (n6:Int)=>some (n5,n6)) (fun k4=>M60_L1 R60 F a2 k4 a1.Kids 1 a2)
def M60:Nat->TTest->Int->Option (Int×Int)
 |0,_,_=>none
 |F+1,a1,a2=>M60_B (M60 F) F a1 a2
def M89(F:Nat):Option (Nat->Tpolicy_uses):=
 some (arrOf (Tpolicy_uses.mk false false false 0) [(Tpolicy_uses.mk false false false 0),(Tpolicy_uses.mk false false false 0),(Tpolicy_uses.mk true true false 0),(Tpolicy_uses.mk true true false 0),(Tpolicy_uses.mk true false false 0),(Tpolicy_uses.mk true false true 0),(Tpolicy_uses.mk false false false 1),(Tpolicy_uses.mk false false false (-1)),(Tpolicy_uses.mk false false false (-1))])
def M90(F:Nat)(a1:TTest):Option Bool:=
 (M89 F).bind fun y2=>if 0<=a1.Kind/\a1.Kind.toNat<9 then if (!(y2 a1.Kind.toNat).name)=true then if (!(a1.Name==([]:List UInt8)))=true then some false
 else if (!(y2 a1.Kind.toNat).texts)=true then if (decide (((a1.Texts.length:Nat):Int)>0))=true then some false
 else if (!(y2 a1.Kind.toNat).number)=true then if (a1.Op != 0)=true then some false
 else if (a1.N != 0)=true then some false
 else if (decide ((y2 a1.Kind.toNat).kids<0))=true then some (decide (((a1.Kids.length:Nat):Int)>=2))
 else some (((a1.Kids.length:Nat):Int)==(y2 a1.Kind.toNat).kids)
 else if (decide ((y2 a1.Kind.toNat).kids<0))=true then some (decide (((a1.Kids.length:Nat):Int)>=2))
 else some (((a1.Kids.length:Nat):Int)==(y2 a1.Kind.toNat).kids)
 else if (!(y2 a1.Kind.toNat).number)=true then if (a1.Op != 0)=true then some false
 else if (a1.N != 0)=true then some false
 else if (decide ((y2 a1.Kind.toNat).kids<0))=true then some (decide (((a1.Kids.length:Nat):Int)>=2))
 else some (((a1.Kids.length:Nat):Int)==(y2 a1.Kind.toNat).kids)
 else if (decide ((y2 a1.Kind.toNat).kids<0))=true then some (decide (((a1.Kids.length:Nat):Int)>=2))
 else some (((a1.Kids.length:Nat):Int)==(y2 a1.Kind.toNat).kids)
 else if (!(y2 a1.Kind.toNat).texts)=true then if (decide (((a1.Texts.length:Nat):Int)>0))=true then some false
 else if (!(y2 a1.Kind.toNat).number)=true then if (a1.Op != 0)=true then some false
 else if (a1.N != 0)=true then some false
 else if (decide ((y2 a1.Kind.toNat).kids<0))=true then some (decide (((a1.Kids.length:Nat):Int)>=2))
 else some (((a1.Kids.length:Nat):Int)==(y2 a1.Kind.toNat).kids)
 else if (decide ((y2 a1.Kind.toNat).kids<0))=true then some (decide (((a1.Kids.length:Nat):Int)>=2))
 else some (((a1.Kids.length:Nat):Int)==(y2 a1.Kind.toNat).kids)
 else if (!(y2 a1.Kind.toNat).number)=true then if (a1.Op != 0)=true then some false
 else if (a1.N != 0)=true then some false
 else if (decide ((y2 a1.Kind.toNat).kids<0))=true then some (decide (((a1.Kids.length:Nat):Int)>=2))
 else some (((a1.Kids.length:Nat):Int)==(y2 a1.Kind.toNat).kids)
 else if (decide ((y2 a1.Kind.toNat).kids<0))=true then some (decide (((a1.Kids.length:Nat):Int)>=2))
 else some (((a1.Kids.length:Nat):Int)==(y2 a1.Kind.toNat).kids) else none
def M65_L1(F:Nat)(a1:(List UInt8))(k2:Option Bool):Nat->Int->Option Bool
  |0,n4=>k2
  |tl1+1,n4=>(idx a1 n4).bind fun c6=>if (decide ((c6.toNat:Int)<32))=true then some false
 else (idx a1 n4).bind fun c9=>if (decide ((c9.toNat:Int)>126))=true then some false
 else M65_L1 F a1 k2 tl1 (n4+1)
def M65(F:Nat)(a1:(List UInt8)):Option Bool:=
 jn (some (decide ((a1.length:Int)<=1000))) (fun k2=>if (a1.length:Int)<=9223372036854775807 then M65_L1 F a1 k2 (((a1.length:Int):Int).toNat) 0 else none)
def M91_L1(F:Nat)(a1:(List (List UInt8)))(k4:Option Int):List (List UInt8)->Int->Option Int
  |[],n6=>k4
  |x8::tl1,n6=>(M65 F x8).bind fun y10=>jn (M91_L1 F a1 k4 tl1 (n6+1)) (fun k12=>if (!y10)=true then some 2
 else if (decide (n6>0))=true then (idx a1 (w64 (n6 - 1))).bind fun x15=>if (Op.bytesLess x8 x15||x8==x15)=true then some 10
 else k12
 else k12)
def M91(F:Nat)(a1:(List (List UInt8))):Option Int:=
 if (((a1.length:Nat):Int)==0)=true then some 13
 else if (decide (((a1.length:Nat):Int)>50))=true then some 3
 else jn (some 0) (fun k4=>M91_L1 F a1 k4 a1 0)
def M92(F:Nat)(a1:Int):Option Bool:=
 if (decide (a1>=(-1000000000000)))=true then some (decide (a1<=1000000000000))
 else some false
def M61_L1(R61:TTest->Option Int)(F:Nat)(k27:Option Int):List KRow->Option Int
  |[]=>k27
  |x31::tl1=>(kdec encTTest x31).bind fun y33=>(R61 y33).bind fun y35=>if (y35 != 0)=true then some y35
 else M61_L1 R61 F k27 tl1
def M61_B(R61:TTest->Option Int)(F:Nat)(a1:TTest):Option Int:=
 if (decide (a1.Kind<1))=true then some 7
 else if (decide (a1.Kind>8))=true then some 7
 else (M89 F).bind fun y4=>if 0<=a1.Kind/\a1.Kind.toNat<9 then (M90 F a1).bind fun y7=>jn (jn (jn (jn (some 0) (fun k27=>M61_L1 R61 F k27 a1.Kids)) (fun k20=>if (y4 a1.Kind.toNat).number=true then if (decide (a1.Op<1))=true then some 7
 else if (decide (a1.Op>5))=true then some 7
 else (M92 F a1.N).bind fun y24=>if (!y24)=true then some 9
 else k20
 else k20)) (fun k15=>if (y4 a1.Kind.toNat).texts=true then (M91 F a1.Texts).bind fun y17=>if (y17 != 0)=true then some y17
 else k15
 else k15)) (fun k9=>if (!y7)=true then some 2
 else if (y4 a1.Kind.toNat).name=true then (M30 F a1.Name).bind fun y12=>if (!y12)=true then some 8
 else k9
 else k9) else none
def M61:Nat->TTest->Option Int
 |0,_=>none
 |F+1,a1=>M61_B (M61 F) F a1
def M31(F:Nat)(a1:TTest):Option Int:=
 (M60 F a1 1).bind fun y2=>if (decide ((y2.1)>60))=true then some 3
 else if (decide ((y2.2)>12))=true then some 3
 else (M61 F a1).bind fun y6=>some y6
def M62(F:Nat)(a1:(List UInt8))(a2:Int):Option Int:=some (Lib.indexByte a1 a2.toNat.toUInt8)
def M64(F:Nat)(a1:TPolicyRule)(a2:List UInt8)(a3:List UInt8)(a4:Int)(a5:Int)(a6:List UInt8)(a7:Int):Option Bool:=
 some (a1.Name==a2)
def M94_L1(F:Nat)(a2:List UInt8)(a3:List UInt8)(a4:Int)(a5:Int)(a6:List UInt8)(a7:Int)(k8:Option Int):List TPolicyRule->Int->Option Int
  |[],n10=>k8
  |x12::tl1,n10=>(M64 F x12 a2 a3 a4 a5 a6 a7).bind fun y14=>if y14=true then some n10
 else M94_L1 F a2 a3 a4 a5 a6 a7 k8 tl1 (n10+1)
def M94(F:Nat)(a1:(List TPolicyRule))(a2:List UInt8)(a3:List UInt8)(a4:Int)(a5:Int)(a6:List UInt8)(a7:Int):Option Int:=
 jn (some (-1)) (fun k8=>M94_L1 F a2 a3 a4 a5 a6 a7 k8 a1 0)
def M63(F:Nat)(a1:(List TPolicyRule))(a2:List UInt8)(a3:List UInt8)(a4:Int)(a5:Int)(a6:List UInt8)(a7:Int):Option Bool:=
 (M94 F a1 a2 a3 a4 a5 a6 a7).bind fun y8=>some (decide (y8>=0))
def M32(F:Nat)(a1:TPolicy)(a2:TWaiver):Option Int:=
 (M62 F a2.Subject 42).bind fun y3=>(M63 F a1.Rules a2.Rule a2.Subject a2.From a2.To a2.Owner a2.Level).bind fun y5=>jn (some 0) (fun k7=>if (!y5)=true then some 4
 else (M65 F a2.Subject).bind fun y9=>if (!y9)=true then some 2
 else if (decide (y3>=0))=true then if (decide (y3<(w64 ((a2.Subject.length:Int) - 1))))=true then some 2
 else if (decide (a2.From<0))=true then some 9
 else if (decide (a2.From>a2.To))=true then some 9
 else if (decide (a2.To>1000000))=true then some 9
 else (M30 F a2.Owner).bind fun y17=>if (!y17)=true then some 8
 else if (decide (a2.Level<1))=true then some 7
 else if (decide (a2.Level>3))=true then some 7
 else k7
 else if (decide (a2.From<0))=true then some 9
 else if (decide (a2.From>a2.To))=true then some 9
 else if (decide (a2.To>1000000))=true then some 9
 else (M30 F a2.Owner).bind fun y25=>if (!y25)=true then some 8
 else if (decide (a2.Level<1))=true then some 7
 else if (decide (a2.Level>3))=true then some 7
 else k7)
def M9_L2(F:Nat)(a1:TPolicy)(k25:Option Int):List TWaiver->Option Int
  |[]=>k25
  |x29::tl2=>(M32 F a1 x29).bind fun y31=>if (y31 != 0)=true then some y31
 else M9_L2 F a1 k25 tl2
def M9_L1(F:Nat)(k4:Option Int):List TPolicyRule->(List ((List UInt8)×Bool))->Option Int
  |[],m8=>k4
  |x10::tl1,m8=>(M30 F x10.Name).bind fun y12=>if (!y12)=true then some 8
 else if ((mget m8 x10.Name).getD false)=true then some 5
 else (M30 F x10.About).bind fun y16=>if (!y16)=true then some 8
 else (M31 F x10.When).bind fun y19=>if (y19 != 0)=true then some y19
 else if (decide (x10.Level<1))=true then some 7
 else if (decide (x10.Level>4))=true then some 7
 else M9_L1 F k4 tl1 (mput m8 x10.Name true)
def M9(F:Nat)(a1:TPolicy):Option Int:=
 if (decide (((a1.Rules.length:Nat):Int)>100))=true then some 3
 else if (decide (((a1.Waivers.length:Nat):Int)>200))=true then some 3
 else jn (jn (some 0) (fun k25=>M9_L2 F a1 k25 a1.Waivers)) (fun k4=>M9_L1 F k4 a1.Rules ([]:List ((List UInt8)×Bool)))
def M11(F:Nat):Option (List (List UInt8)):=
 some ([([]:List UInt8),([112,97,115,115]:List UInt8),([110,111,116,101]:List UInt8),([119,97,114,110]:List UInt8),([100,101,110,121]:List UInt8)]:List (List UInt8))
def M13(F:Nat)(a1:(List UInt8)):Option (List UInt8):=if a1.length<=35184372088832 then some (quoteT a1) else none
def M37(F:Nat)(a1:(List (List UInt8)))(a2:(List UInt8)):Option (List UInt8):=if a1.length<=140737488355328/\(Lib.join a1 a2).length<=140737488355328 then some (Lib.join a1 a2) else none
def M34_L1(F:Nat)(k2:(List (List UInt8))->Option (List UInt8)):List (List UInt8)->(List (List UInt8))->Option (List UInt8)
 |[],l7=>k2 l7
 |x9::tl1,l7=>(M13 F x9).bind fun y11=>if (l7++([y11]:List (List UInt8))).length*16<=140737488355328 then M34_L1 F k2 tl1 (l7++([y11]:List (List UInt8))) else none
def M34(F:Nat)(a1:(List (List UInt8))):Option (List UInt8):=
 jn (fun(l3:List (List UInt8))=>(M37 F l3 ([44,32]:List UInt8)).bind fun y15=>some y15) (fun k2=>M34_L1 F k2 a1 ([]:List (List UInt8)))
def M35(F:Nat):Option (Nat->(List UInt8)):=
 some (arrOf [] [([]:List UInt8),([60]:List UInt8),([60,61]:List UInt8),([61]:List UInt8),([62,61]:List UInt8),([62]:List UInt8)])
def M14(F:Nat)(a1:Int):Option (List UInt8):=if -9223372036854775808<=a1/\a1<=9223372036854775807 then some (Lib.itoa a1) else none
def M36(R12:TTest->Option (List UInt8))(F:Nat)(a1:Int)(a2:TTest):Option (List UInt8):=
 (R12 a2).bind fun y3=>if (a2.Kind==7)=true then if (a1==6)=true then if ([40]:List UInt8).length+y3.length<=9223372036854775807 then if (([40]:List UInt8)++y3).length+([41]:List UInt8).length<=9223372036854775807 then some ((([40]:List UInt8)++y3)++([41]:List UInt8)) else none else none
 else if (a1==a2.Kind)=true then if ([40]:List UInt8).length+y3.length<=9223372036854775807 then if (([40]:List UInt8)++y3).length+([41]:List UInt8).length<=9223372036854775807 then some ((([40]:List UInt8)++y3)++([41]:List UInt8)) else none else none
 else if (a2.Kind==8)=true then if ([40]:List UInt8).length+y3.length<=9223372036854775807 then if (([40]:List UInt8)++y3).length+([41]:List UInt8).length<=9223372036854775807 then some ((([40]:List UInt8)++y3)++([41]:List UInt8)) else none else none
 else some y3
 else if (a2.Kind==8)=true then if (a1==6)=true then if ([40]:List UInt8).length+y3.length<=9223372036854775807 then if (([40]:List UInt8)++y3).length+([41]:List UInt8).length<=9223372036854775807 then some ((([40]:List UInt8)++y3)++([41]:List UInt8)) else none else none
 else if (a1==a2.Kind)=true then if ([40]:List UInt8).length+y3.length<=9223372036854775807 then if (([40]:List UInt8)++y3).length+([41]:List UInt8).length<=9223372036854775807 then some ((([40]:List UInt8)++y3)++([41]:List UInt8)) else none else none
 else if ([40]:List UInt8).length+y3.length<=9223372036854775807 then if (([40]:List UInt8)++y3).length+([41]:List UInt8).length<=9223372036854775807 then some ((([40]:List UInt8)++y3)++([41]:List UInt8)) else none else none
 else some y3
def M12_L1(R12:TTest->Option (List UInt8))(F:Nat)(a1:TTest)(k40:(List (List UInt8))->Option (List UInt8)):List KRow->(List (List UInt8))->Option (List UInt8)
 |[],l45=>k40 l45
 |x47::tl1,l45=>(kdec encTTest x47).bind fun y49=>(M36 R12 F a1.Kind y49).bind fun y51=>if (l45++([y51]:List (List UInt8))).length*16<=140737488355328 then M12_L1 R12 F a1 k40 tl1 (l45++([y51]:List (List UInt8))) else none
def M12_B(R12:TTest->Option (List UInt8))(F:Nat)(a1:TTest):Option (List UInt8):=
 jn (some ([116,114,117,101]:List UInt8)) (fun k2=>if (a1.Kind==2)=true then if a1.Name.length+([32,105,115,32]:List UInt8).length<=9223372036854775807 then (M34 F a1.Texts).bind fun y5=>if (a1.Name++([32,105,115,32]:List UInt8)).length+y5.length<=9223372036854775807 then some ((a1.Name++([32,105,115,32]:List UInt8))++y5) else none else none
 else if (a1.Kind==3)=true then if a1.Name.length+([32,98,101,103,105,110,115,32]:List UInt8).length<=9223372036854775807 then (M34 F a1.Texts).bind fun y10=>if (a1.Name++([32,98,101,103,105,110,115,32]:List UInt8)).length+y10.length<=9223372036854775807 then some ((a1.Name++([32,98,101,103,105,110,115,32]:List UInt8))++y10) else none else none
 else if (a1.Kind==4)=true then if ([104,97,115,32]:List UInt8).length+a1.Name.length<=9223372036854775807 then some (([104,97,115,32]:List UInt8)++a1.Name) else none
 else if (a1.Kind==5)=true then if a1.Name.length+([32]:List UInt8).length<=9223372036854775807 then (M35 F).bind fun y17=>if 0<=a1.Op/\a1.Op.toNat<6 then if (a1.Name++([32]:List UInt8)).length+(y17 a1.Op.toNat).length<=9223372036854775807 then if ((a1.Name++([32]:List UInt8))++(y17 a1.Op.toNat)).length+([32]:List UInt8).length<=9223372036854775807 then (M14 F a1.N).bind fun y22=>if (((a1.Name++([32]:List UInt8))++(y17 a1.Op.toNat))++([32]:List UInt8)).length+y22.length<=9223372036854775807 then some ((((a1.Name++([32]:List UInt8))++(y17 a1.Op.toNat))++([32]:List UInt8))++y22) else none else none else none else none else none
 else if (a1.Kind==6)=true then (idx a1.Kids 0).bind fun x26=>(kdec encTTest x26).bind fun y28=>(M36 R12 F a1.Kind y28).bind fun y30=>if ([110,111,116,32]:List UInt8).length+y30.length<=9223372036854775807 then some (([110,111,116,32]:List UInt8)++y30) else none
 else jn (fun(b34:Bool)=>if b34=true then jn (fun(s38:List UInt8)=>jn (fun(l41:List (List UInt8))=>(M37 F l41 s38).bind fun y55=>some y55) (fun k40=>M12_L1 R12 F a1 k40 a1.Kids ([]:List (List UInt8)))) (fun k37=>if (a1.Kind==8)=true then k37 ([32,111,114,32]:List UInt8)
 else k37 ([32,97,110,100,32]:List UInt8))
 else k2) (fun k33=>if (a1.Kind==7)=true then k33 (a1.Kind==7)
 else k33 (a1.Kind==8)))
def M12:Nat->TTest->Option (List UInt8)
 |0,_=>none
 |F+1,a1=>M12_B (M12 F) F a1
def M10(F:Nat)(a1:(List UInt8))(a2:List UInt8):Option Unit:=if a2.length+a1.length<=140737488355328 then some () else none
def M15(F:Nat)(a1:List UInt8):Option Unit:=some ()
def M16(F:Nat)(a1:List UInt8):Option Unit:=some ()
def M4_L2(F:Nat)(k31:(List UInt8)->Option ((List UInt8)×Int)):List TWaiver->(List UInt8)->Option ((List UInt8)×Int)
 |[],s36=>k31 s36
 |x38::tl2,s36=>if ([119,97,105,118,101,32]:List UInt8).length+x38.Rule.length<=9223372036854775807 then if (([119,97,105,118,101,32]:List UInt8)++x38.Rule).length+([32,102,111,114,32]:List UInt8).length<=9223372036854775807 then (M13 F x38.Subject).bind fun y42=>if ((([119,97,105,118,101,32]:List UInt8)++x38.Rule)++([32,102,111,114,32]:List UInt8)).length+y42.length<=9223372036854775807 then if (((([119,97,105,118,101,32]:List UInt8)++x38.Rule)++([32,102,111,114,32]:List UInt8))++y42).length+([32,102,114,111,109,32]:List UInt8).length<=9223372036854775807 then (M14 F x38.From).bind fun y46=>if ((((([119,97,105,118,101,32]:List UInt8)++x38.Rule)++([32,102,111,114,32]:List UInt8))++y42)++([32,102,114,111,109,32]:List UInt8)).length+y46.length<=9223372036854775807 then if (((((([119,97,105,118,101,32]:List UInt8)++x38.Rule)++([32,102,111,114,32]:List UInt8))++y42)++([32,102,114,111,109,32]:List UInt8))++y46).length+([32,116,111,32]:List UInt8).length<=9223372036854775807 then (M14 F x38.To).bind fun y50=>if ((((((([119,97,105,118,101,32]:List UInt8)++x38.Rule)++([32,102,111,114,32]:List UInt8))++y42)++([32,102,114,111,109,32]:List UInt8))++y46)++([32,116,111,32]:List UInt8)).length+y50.length<=9223372036854775807 then if (((((((([119,97,105,118,101,32]:List UInt8)++x38.Rule)++([32,102,111,114,32]:List UInt8))++y42)++([32,102,114,111,109,32]:List UInt8))++y46)++([32,116,111,32]:List UInt8))++y50).length+([32,98,121,32]:List UInt8).length<=9223372036854775807 then if ((((((((([119,97,105,118,101,32]:List UInt8)++x38.Rule)++([32,102,111,114,32]:List UInt8))++y42)++([32,102,114,111,109,32]:List UInt8))++y46)++([32,116,111,32]:List UInt8))++y50)++([32,98,121,32]:List UInt8)).length+x38.Owner.length<=9223372036854775807 then if (((((((((([119,97,105,118,101,32]:List UInt8)++x38.Rule)++([32,102,111,114,32]:List UInt8))++y42)++([32,102,114,111,109,32]:List UInt8))++y46)++([32,116,111,32]:List UInt8))++y50)++([32,98,121,32]:List UInt8))++x38.Owner).length+([32,97,115,32]:List UInt8).length<=9223372036854775807 then (M11 F).bind fun y56=>(idx y56 x38.Level).bind fun x58=>if ((((((((((([119,97,105,118,101,32]:List UInt8)++x38.Rule)++([32,102,111,114,32]:List UInt8))++y42)++([32,102,114,111,109,32]:List UInt8))++y46)++([32,116,111,32]:List UInt8))++y50)++([32,98,121,32]:List UInt8))++x38.Owner)++([32,97,115,32]:List UInt8)).length+x58.length<=9223372036854775807 then if (((((((((((([119,97,105,118,101,32]:List UInt8)++x38.Rule)++([32,102,111,114,32]:List UInt8))++y42)++([32,102,114,111,109,32]:List UInt8))++y46)++([32,116,111,32]:List UInt8))++y50)++([32,98,121,32]:List UInt8))++x38.Owner)++([32,97,115,32]:List UInt8))++x58).length+([10]:List UInt8).length<=9223372036854775807 then (M10 F ((((((((((((([119,97,105,118,101,32]:List UInt8)++x38.Rule)++([32,102,111,114,32]:List UInt8))++y42)++([32,102,114,111,109,32]:List UInt8))++y46)++([32,116,111,32]:List UInt8))++y50)++([32,98,121,32]:List UInt8))++x38.Owner)++([32,97,115,32]:List UInt8))++x58)++([10]:List UInt8)) s36).bind fun y62=>M4_L2 F k31 tl2 (s36++((((((((((((([119,97,105,118,101,32]:List UInt8)++x38.Rule)++([32,102,111,114,32]:List UInt8))++y42)++([32,102,114,111,109,32]:List UInt8))++y46)++([32,116,111,32]:List UInt8))++y50)++([32,98,121,32]:List UInt8))++x38.Owner)++([32,97,115,32]:List UInt8))++x58)++([10]:List UInt8))) else none else none else none else none else none else none else none else none else none else none else none else none
def M4_L1(F:Nat)(k5:(List UInt8)->Option ((List UInt8)×Int)):List TPolicyRule->(List UInt8)->Option ((List UInt8)×Int)
 |[],s10=>k5 s10
 |x12::tl1,s10=>if ([114,117,108,101,32]:List UInt8).length+x12.Name.length<=9223372036854775807 then if (([114,117,108,101,32]:List UInt8)++x12.Name).length+([32,97,98,111,117,116,32]:List UInt8).length<=9223372036854775807 then if ((([114,117,108,101,32]:List UInt8)++x12.Name)++([32,97,98,111,117,116,32]:List UInt8)).length+x12.About.length<=9223372036854775807 then if (((([114,117,108,101,32]:List UInt8)++x12.Name)++([32,97,98,111,117,116,32]:List UInt8))++x12.About).length+([32]:List UInt8).length<=9223372036854775807 then (M11 F).bind fun y18=>(idx y18 x12.Level).bind fun x20=>if ((((([114,117,108,101,32]:List UInt8)++x12.Name)++([32,97,98,111,117,116,32]:List UInt8))++x12.About)++([32]:List UInt8)).length+x20.length<=9223372036854775807 then if (((((([114,117,108,101,32]:List UInt8)++x12.Name)++([32,97,98,111,117,116,32]:List UInt8))++x12.About)++([32]:List UInt8))++x20).length+([32,119,104,101,110,32]:List UInt8).length<=9223372036854775807 then (M12 F x12.When).bind fun y24=>if ((((((([114,117,108,101,32]:List UInt8)++x12.Name)++([32,97,98,111,117,116,32]:List UInt8))++x12.About)++([32]:List UInt8))++x20)++([32,119,104,101,110,32]:List UInt8)).length+y24.length<=9223372036854775807 then if (((((((([114,117,108,101,32]:List UInt8)++x12.Name)++([32,97,98,111,117,116,32]:List UInt8))++x12.About)++([32]:List UInt8))++x20)++([32,119,104,101,110,32]:List UInt8))++y24).length+([10]:List UInt8).length<=9223372036854775807 then (M10 F ((((((((([114,117,108,101,32]:List UInt8)++x12.Name)++([32,97,98,111,117,116,32]:List UInt8))++x12.About)++([32]:List UInt8))++x20)++([32,119,104,101,110,32]:List UInt8))++y24)++([10]:List UInt8)) s10).bind fun y28=>M4_L1 F k5 tl1 (s10++((((((((([114,117,108,101,32]:List UInt8)++x12.Name)++([32,97,98,111,117,116,32]:List UInt8))++x12.About)++([32]:List UInt8))++x20)++([32,119,104,101,110,32]:List UInt8))++y24)++([10]:List UInt8))) else none else none else none else none else none else none else none else none
def M4(F:Nat)(a1:TPolicy):Option ((List UInt8)×Int):=
 (M9 F a1).bind fun y2=>if (y2 != 0)=true then some (([]:List UInt8),y2)
 else jn (fun(s6:List UInt8)=>jn (fun(s32:List UInt8)=>(M15 F s32).bind fun y65=>if (decide (((s32.length:Nat):Int)>200000))=true then some (([]:List UInt8),3)
 else (M16 F s32).bind fun y68=>some (s32,0)) (fun k31=>M4_L2 F k31 a1.Waivers s6)) (fun k5=>M4_L1 F k5 a1.Rules ([]:List UInt8))
def M103_L1(F:Nat)(a1:(List UInt8))(k2:Option Bool):Nat->Int->Option Bool
  |0,n4=>k2
  |tl1+1,n4=>if 0<=n4/\n4.toNat<20 then if (((arrOf [] [([114,117,108,101]:List UInt8),([97,98,111,117,116]:List UInt8),([119,104,101,110]:List UInt8),([119,97,105,118,101]:List UInt8),([102,111,114]:List UInt8),([102,114,111,109]:List UInt8),([116,111]:List UInt8),([98,121]:List UInt8),([97,115]:List UInt8),([112,97,115,115]:List UInt8),([110,111,116,101]:List UInt8),([119,97,114,110]:List UInt8),([100,101,110,121]:List UInt8),([111,114]:List UInt8),([97,110,100]:List UInt8),([116,114,117,101]:List UInt8),([105,115]:List UInt8),([98,101,103,105,110,115]:List UInt8),([104,97,115]:List UInt8),([110,111,116]:List UInt8)]) n4.toNat)==a1)=true then some true
 else M103_L1 F a1 k2 tl1 (n4+1) else none
def M103(F:Nat)(a1:(List UInt8)):Option Bool:=
 jn (some false) (fun k2=>if (20:Int)<=9223372036854775807 then M103_L1 F a1 k2 ((20:Int).toNat) 0 else none)
def M104(F:Nat)(a1:Int):Option Bool:=
 if (decide (a1>=97))=true then if (decide (a1<=122))=true then some true
 else if (decide (a1>=48))=true then if (decide (a1<=57))=true then some true
 else some (a1==45)
 else some (a1==45)
 else if (decide (a1>=48))=true then if (decide (a1<=57))=true then some true
 else some (a1==45)
 else some (a1==45)
def M71_L1(F:Nat)(a1:(List UInt8))(k13:Option Bool):Nat->Int->Option Bool
  |0,n15=>k13
  |tl1+1,n15=>(idx a1 n15).bind fun c17=>(M104 F (c17.toNat:Int)).bind fun y19=>if (!y19)=true then some false
 else M71_L1 F a1 k13 tl1 (n15+1)
def M71(F:Nat)(a1:(List UInt8)):Option Bool:=
 if (a1==([]:List UInt8))=true then some false
 else if (decide ((a1.length:Int)>40))=true then some false
 else (idx a1 0).bind fun c4=>if (decide ((c4.toNat:Int)<97))=true then some false
 else (idx a1 0).bind fun c7=>if (decide ((c7.toNat:Int)>122))=true then some false
 else (M103 F a1).bind fun y10=>if y10=true then some false
 else jn (some true) (fun k13=>if (a1.length:Int)<=9223372036854775807 then M71_L1 F a1 k13 (((a1.length:Int):Int).toNat) 0 else none)
def M72_L1(F:Nat)(a2:(List UInt8))(k3:Option Int):List TPolicyRule->Int->Option Int
  |[],n5=>k3
  |x7::tl1,n5=>if (x7.Name==a2)=true then some n5
 else M72_L1 F a2 k3 tl1 (n5+1)
def M72(F:Nat)(a1:(List TPolicyRule))(a2:(List UInt8)):Option Int:=
 jn (some (-1)) (fun k3=>M72_L1 F a2 k3 a1 0)
def M105_L1(R105:TTest->Int->Option Int)(F:Nat)(a1:TTest)(a2:Int)(k3:Int->Option Int):Nat->Int->Int->Option Int
 |0,_,_=>none
 |n+1,n7,n8=>if (decide (n8<((a1.Kids.length:Nat):Int)))=true then if (decide (n7<=a2))=true then (idx a1.Kids n8).bind fun x11=>(kdec encTTest x11).bind fun y13=>(R105 y13 (w64 (a2 - n7))).bind fun y15=>M105_L1 R105 F a1 a2 k3 n (w64 (n7+y15)) (w64 (n8+1))
 else k3 n7
 else k3 n7
def M105_B(R105:TTest->Int->Option Int)(F:Nat)(a1:TTest)(a2:Int):Option Int:=
 jn (fun(n4:Int)=>some n4) (fun k3=>M105_L1 R105 F a1 a2 k3 F 1 0)
def M105:Nat->TTest->Int->Option Int
 |0,_,_=>none
 |F+1,a1,a2=>M105_B (M105 F) F a1 a2
def M106_L1(R106:TTest->Option Int)(F:Nat)(a1:TTest)(k2:Int->Option Int):Nat->Int->Int->Option Int
 |0,n7,n6=>k2 n6
 |tl1+1,n7,n6=>(idx a1.Kids n7).bind fun x9=>(kdec encTTest x9).bind fun y11=>(R106 y11).bind fun y13=>M106_L1 R106 F a1 k2 tl1 (n7+1) (if y13>n6 then y13 else n6)
def M106_B(R106:TTest->Option Int)(F:Nat)(a1:TTest):Option Int:=
 jn (fun(n3:Int)=>some (w64 (n3+1))) (fun k2=>if ((a1.Kids.length:Nat):Int)<=9223372036854775807 then M106_L1 R106 F a1 k2 ((((a1.Kids.length:Nat):Int):Int).toNat) 0 0 else none)
def M106:Nat->TTest->Option Int
 |0,_=>none
 |F+1,a1=>M106_B (M106 F) F a1
def M74(F:Nat)(a1:Int)(a2:Int)(a3:Int):Option Bool:=
 if (decide (a1<a2))=true then some true
 else some (decide (a1>a3))
def M146(F:Nat)(a1:TTest):Option Int:=
 (M74 F a1.Kind 1 8).bind fun y2=>if y2=true then some 7
 else if (decide (a1.Kind>=2))=true then if (a1.Kind==2)=true then jn (fun(b8:Bool)=>if (!(decide (a1.Kind<=5)))=true then if (!(a1.Name==([]:List UInt8)))=true then some 2
 else if (!(a1.Kind==5))=true then if (a1.Op != 0)=true then some 2
 else if (a1.N != 0)=true then some 2
 else if (!b8)=true then some 2
 else some 0
 else if (!b8)=true then some 2
 else some 0
 else if (!(a1.Kind==5))=true then if (a1.Op != 0)=true then some 2
 else if (a1.N != 0)=true then some 2
 else if (!b8)=true then some 2
 else some 0
 else if (!b8)=true then some 2
 else some 0) (fun k7=>if (a1.Kind==6)=true then k7 (((a1.Kids.length:Nat):Int)==1)
 else jn (fun(b11:Bool)=>if b11=true then k7 (decide (((a1.Kids.length:Nat):Int)>=2))
 else k7 (((a1.Kids.length:Nat):Int)==0)) (fun k10=>if (a1.Kind==7)=true then k10 (a1.Kind==7)
 else k10 (a1.Kind==8)))
 else jn (fun(b27:Bool)=>if (!(decide (a1.Kind<=5)))=true then if (!(a1.Name==([]:List UInt8)))=true then some 2
 else if (!(a1.Kind==3))=true then if (decide (((a1.Texts.length:Nat):Int)>0))=true then some 2
 else if (!(a1.Kind==5))=true then if (a1.Op != 0)=true then some 2
 else if (a1.N != 0)=true then some 2
 else if (!b27)=true then some 2
 else some 0
 else if (!b27)=true then some 2
 else some 0
 else if (!(a1.Kind==5))=true then if (a1.Op != 0)=true then some 2
 else if (a1.N != 0)=true then some 2
 else if (!b27)=true then some 2
 else some 0
 else if (!b27)=true then some 2
 else some 0
 else if (!(a1.Kind==3))=true then if (decide (((a1.Texts.length:Nat):Int)>0))=true then some 2
 else if (!(a1.Kind==5))=true then if (a1.Op != 0)=true then some 2
 else if (a1.N != 0)=true then some 2
 else if (!b27)=true then some 2
 else some 0
 else if (!b27)=true then some 2
 else some 0
 else if (!(a1.Kind==5))=true then if (a1.Op != 0)=true then some 2
 else if (a1.N != 0)=true then some 2
 else if (!b27)=true then some 2
 else some 0
 else if (!b27)=true then some 2
 else some 0) (fun k26=>if (a1.Kind==6)=true then k26 (((a1.Kids.length:Nat):Int)==1)
 else jn (fun(b30:Bool)=>if b30=true then k26 (decide (((a1.Kids.length:Nat):Int)>=2))
 else k26 (((a1.Kids.length:Nat):Int)==0)) (fun k29=>if (a1.Kind==7)=true then k29 (a1.Kind==7)
 else k29 (a1.Kind==8)))
 else if (a1.Kind==2)=true then jn (fun(b61:Bool)=>if (!(a1.Name==([]:List UInt8)))=true then some 2
 else if (!(a1.Kind==5))=true then if (a1.Op != 0)=true then some 2
 else if (a1.N != 0)=true then some 2
 else if (!b61)=true then some 2
 else some 0
 else if (!b61)=true then some 2
 else some 0) (fun k60=>if (a1.Kind==6)=true then k60 (((a1.Kids.length:Nat):Int)==1)
 else jn (fun(b64:Bool)=>if b64=true then k60 (decide (((a1.Kids.length:Nat):Int)>=2))
 else k60 (((a1.Kids.length:Nat):Int)==0)) (fun k63=>if (a1.Kind==7)=true then k63 (a1.Kind==7)
 else k63 (a1.Kind==8)))
 else jn (fun(b74:Bool)=>if (!(a1.Name==([]:List UInt8)))=true then some 2
 else if (!(a1.Kind==3))=true then if (decide (((a1.Texts.length:Nat):Int)>0))=true then some 2
 else if (!(a1.Kind==5))=true then if (a1.Op != 0)=true then some 2
 else if (a1.N != 0)=true then some 2
 else if (!b74)=true then some 2
 else some 0
 else if (!b74)=true then some 2
 else some 0
 else if (!(a1.Kind==5))=true then if (a1.Op != 0)=true then some 2
 else if (a1.N != 0)=true then some 2
 else if (!b74)=true then some 2
 else some 0
 else if (!b74)=true then some 2
 else some 0) (fun k73=>if (a1.Kind==6)=true then k73 (((a1.Kids.length:Nat):Int)==1)
 else jn (fun(b77:Bool)=>if b77=true then k73 (decide (((a1.Kids.length:Nat):Int)>=2))
 else k73 (((a1.Kids.length:Nat):Int)==0)) (fun k76=>if (a1.Kind==7)=true then k76 (a1.Kind==7)
 else k76 (a1.Kind==8)))
def M75_L1(F:Nat)(a1:(List UInt8))(k3:Option Bool):Nat->Int->Option Bool
  |0,n5=>k3
  |tl1+1,n5=>(idx a1 n5).bind fun c7=>if (decide ((c7.toNat:Int)<32))=true then some false
 else (idx a1 n5).bind fun c10=>if (decide ((c10.toNat:Int)>126))=true then some false
 else M75_L1 F a1 k3 tl1 (n5+1)
def M75(F:Nat)(a1:(List UInt8)):Option Bool:=
 if (decide ((a1.length:Int)>1000))=true then some false
 else jn (some true) (fun k3=>if (a1.length:Int)<=9223372036854775807 then M75_L1 F a1 k3 (((a1.length:Int):Int).toNat) 0 else none)
def M130_L1(F:Nat)(a1:TTest)(k13:Option Int):List (List UInt8)->Int->Option Int
  |[],n15=>k13
  |x18::tl1,n15=>jn (M130_L1 F a1 k13 tl1 (n15+1)) (fun k17=>(M75 F x18).bind fun y20=>if (!y20)=true then some 2
 else if (decide (n15>0))=true then (idx a1.Texts n15).bind fun x24=>(idx a1.Texts (w64 (n15 - 1))).bind fun x26=>if (Op.bytesLess x24 x26||x24==x26)=true then some 10
 else k17
 else k17)
def M130_L2(F:Nat)(a1:TTest)(k42:Option Int):List (List UInt8)->Int->Option Int
  |[],n44=>k42
  |x47::tl2,n44=>jn (M130_L2 F a1 k42 tl2 (n44+1)) (fun k46=>(M75 F x47).bind fun y49=>if (!y49)=true then some 2
 else if (decide (n44>0))=true then (idx a1.Texts n44).bind fun x53=>(idx a1.Texts (w64 (n44 - 1))).bind fun x55=>if (Op.bytesLess x53 x55||x53==x55)=true then some 10
 else k46
 else k46)
def M130_L3(F:Nat)(a1:TTest)(k70:Option Int):List (List UInt8)->Int->Option Int
  |[],n72=>k70
  |x75::tl3,n72=>jn (M130_L3 F a1 k70 tl3 (n72+1)) (fun k74=>(M75 F x75).bind fun y77=>if (!y77)=true then some 2
 else if (decide (n72>0))=true then (idx a1.Texts n72).bind fun x81=>(idx a1.Texts (w64 (n72 - 1))).bind fun x83=>if (Op.bytesLess x81 x83||x81==x83)=true then some 10
 else k74
 else k74)
def M130_L4(F:Nat)(a1:TTest)(k99:Option Int):List (List UInt8)->Int->Option Int
  |[],n101=>k99
  |x104::tl4,n101=>jn (M130_L4 F a1 k99 tl4 (n101+1)) (fun k103=>(M75 F x104).bind fun y106=>if (!y106)=true then some 2
 else if (decide (n101>0))=true then (idx a1.Texts n101).bind fun x110=>(idx a1.Texts (w64 (n101 - 1))).bind fun x112=>if (Op.bytesLess x110 x112||x110==x112)=true then some 10
 else k103
 else k103)
def M130_L5(F:Nat)(a1:TTest)(k127:Option Int):List (List UInt8)->Int->Option Int
  |[],n129=>k127
  |x132::tl5,n129=>jn (M130_L5 F a1 k127 tl5 (n129+1)) (fun k131=>(M75 F x132).bind fun y134=>if (!y134)=true then some 2
 else if (decide (n129>0))=true then (idx a1.Texts n129).bind fun x138=>(idx a1.Texts (w64 (n129 - 1))).bind fun x140=>if (Op.bytesLess x138 x140||x138==x140)=true then some 10
 else k131
 else k131)
def M130_L6(F:Nat)(a1:TTest)(k156:Option Int):List (List UInt8)->Int->Option Int
  |[],n158=>k156
  |x161::tl6,n158=>jn (M130_L6 F a1 k156 tl6 (n158+1)) (fun k160=>(M75 F x161).bind fun y163=>if (!y163)=true then some 2
 else if (decide (n158>0))=true then (idx a1.Texts n158).bind fun x167=>(idx a1.Texts (w64 (n158 - 1))).bind fun x169=>if (Op.bytesLess x167 x169||x167==x169)=true then some 10
 else k160
 else k160)
def M130(F:Nat)(a1:TTest):Option Int:=
 (M146 F a1).bind fun y2=>if (y2 != 0)=true then some y2
 else if (decide (a1.Kind>=2))=true then if (decide (a1.Kind<=5))=true then (M71 F a1.Name).bind fun y7=>if (!y7)=true then some 8
 else if (a1.Kind==2)=true then if (((a1.Texts.length:Nat):Int)==0)=true then some 13
 else if (decide (((a1.Texts.length:Nat):Int)>50))=true then some 3
 else jn (jn (some 0) (fun k30=>if (a1.Kind==5)=true then (M74 F a1.Op 1 5).bind fun y32=>if y32=true then some 7
 else (M74 F a1.N (-1000000000000) 1000000000000).bind fun y35=>if y35=true then some 9
 else k30
 else k30)) (fun k13=>M130_L1 F a1 k13 a1.Texts 0)
 else jn (jn (some 0) (fun k59=>if (a1.Kind==5)=true then (M74 F a1.Op 1 5).bind fun y61=>if y61=true then some 7
 else (M74 F a1.N (-1000000000000) 1000000000000).bind fun y64=>if y64=true then some 9
 else k59
 else k59)) (fun k38=>if (a1.Kind==3)=true then if (((a1.Texts.length:Nat):Int)==0)=true then some 13
 else if (decide (((a1.Texts.length:Nat):Int)>50))=true then some 3
 else jn (k38) (fun k42=>M130_L2 F a1 k42 a1.Texts 0)
 else k38)
 else if (a1.Kind==2)=true then if (((a1.Texts.length:Nat):Int)==0)=true then some 13
 else if (decide (((a1.Texts.length:Nat):Int)>50))=true then some 3
 else jn (jn (some 0) (fun k87=>if (a1.Kind==5)=true then (M74 F a1.Op 1 5).bind fun y89=>if y89=true then some 7
 else (M74 F a1.N (-1000000000000) 1000000000000).bind fun y92=>if y92=true then some 9
 else k87
 else k87)) (fun k70=>M130_L3 F a1 k70 a1.Texts 0)
 else jn (jn (some 0) (fun k116=>if (a1.Kind==5)=true then (M74 F a1.Op 1 5).bind fun y118=>if y118=true then some 7
 else (M74 F a1.N (-1000000000000) 1000000000000).bind fun y121=>if y121=true then some 9
 else k116
 else k116)) (fun k95=>if (a1.Kind==3)=true then if (((a1.Texts.length:Nat):Int)==0)=true then some 13
 else if (decide (((a1.Texts.length:Nat):Int)>50))=true then some 3
 else jn (k95) (fun k99=>M130_L4 F a1 k99 a1.Texts 0)
 else k95)
 else if (a1.Kind==2)=true then if (((a1.Texts.length:Nat):Int)==0)=true then some 13
 else if (decide (((a1.Texts.length:Nat):Int)>50))=true then some 3
 else jn (jn (some 0) (fun k144=>if (a1.Kind==5)=true then (M74 F a1.Op 1 5).bind fun y146=>if y146=true then some 7
 else (M74 F a1.N (-1000000000000) 1000000000000).bind fun y149=>if y149=true then some 9
 else k144
 else k144)) (fun k127=>M130_L5 F a1 k127 a1.Texts 0)
 else jn (jn (some 0) (fun k173=>if (a1.Kind==5)=true then (M74 F a1.Op 1 5).bind fun y175=>if y175=true then some 7
 else (M74 F a1.N (-1000000000000) 1000000000000).bind fun y178=>if y178=true then some 9
 else k173
 else k173)) (fun k152=>if (a1.Kind==3)=true then if (((a1.Texts.length:Nat):Int)==0)=true then some 13
 else if (decide (((a1.Texts.length:Nat):Int)>50))=true then some 3
 else jn (k152) (fun k156=>M130_L6 F a1 k156 a1.Texts 0)
 else k152)
def M107_L1(R107:TTest->Option Int)(F:Nat)(a1:TTest)(k5:Option Int):Nat->Int->Option Int
  |0,n7=>k5
  |tl1+1,n7=>(idx a1.Kids n7).bind fun x9=>(kdec encTTest x9).bind fun y11=>(R107 y11).bind fun y13=>if (y13 != 0)=true then some y13
 else M107_L1 R107 F a1 k5 tl1 (n7+1)
def M107_B(R107:TTest->Option Int)(F:Nat)(a1:TTest):Option Int:=
 (M130 F a1).bind fun y2=>if (y2 != 0)=true then some y2
 else jn (some 0) (fun k5=>if ((a1.Kids.length:Nat):Int)<=9223372036854775807 then M107_L1 R107 F a1 k5 ((((a1.Kids.length:Nat):Int):Int).toNat) 0 else none)
def M107:Nat->TTest->Option Int
 |0,_=>none
 |F+1,a1=>M107_B (M107 F) F a1
def M73(F:Nat)(a1:TTest):Option Int:=
 (M105 F a1 60).bind fun y2=>if (decide (y2>60))=true then some 3
 else (M106 F a1).bind fun y5=>if (decide (y5>12))=true then some 3
 else (M107 F a1).bind fun y8=>some y8
def M41(F:Nat)(a1:TPolicy)(a2:Int):Option Int:=
 (idx a1.Rules a2).bind fun x3=>(M71 F x3.Name).bind fun y5=>if (!y5)=true then some 8
 else if 0<=a2/\a2.toNat<=a1.Rules.length then (M72 F (a1.Rules.take a2.toNat) x3.Name).bind fun y9=>if (decide (y9>=0))=true then some 5
 else (M71 F x3.About).bind fun y12=>if (!y12)=true then some 8
 else (M73 F x3.When).bind fun y15=>if (y15 != 0)=true then some y15
 else (M74 F x3.Level 1 4).bind fun y18=>if y18=true then some 7
 else some 0 else none
def M42_L1(F:Nat)(a2:TWaiver)(k9:Option Int):Nat->Int->Option Int
 |0,_=>none
 |n+1,n11=>if (decide ((w64 (n11+1))<(a2.Subject.length:Int)))=true then (idx a2.Subject n11).bind fun c13=>if ((c13.toNat:Int)==42)=true then some 2
 else M42_L1 F a2 k9 n (w64 (n11+1))
 else k9
def M42(F:Nat)(a1:TPolicy)(a2:TWaiver):Option Int:=
 (M72 F a1.Rules a2.Rule).bind fun y3=>if (decide (y3<0))=true then some 4
 else (M75 F a2.Subject).bind fun y6=>if (!y6)=true then some 2
 else jn ((M74 F a2.From 0 a2.To).bind fun y16=>if y16=true then some 9
 else if (decide (a2.To>1000000))=true then some 9
 else (M71 F a2.Owner).bind fun y20=>if (!y20)=true then some 8
 else (M74 F a2.Level 1 3).bind fun y23=>if y23=true then some 7
 else some 0) (fun k9=>M42_L1 F a2 k9 F 0)
def M17_L2(F:Nat)(a1:TPolicy)(k12:Option Int):Nat->Int->Option Int
  |0,n14=>k12
  |tl2+1,n14=>(idx a1.Waivers n14).bind fun x16=>(M42 F a1 x16).bind fun y18=>if (y18 != 0)=true then some y18
 else M17_L2 F a1 k12 tl2 (n14+1)
def M17_L1(F:Nat)(a1:TPolicy)(k4:Option Int):Nat->Int->Option Int
  |0,n6=>k4
  |tl1+1,n6=>(M41 F a1 n6).bind fun y8=>if (y8 != 0)=true then some y8
 else M17_L1 F a1 k4 tl1 (n6+1)
def M17(F:Nat)(a1:TPolicy):Option Int:=
 if (decide (((a1.Rules.length:Nat):Int)>100))=true then some 3
 else if (decide (((a1.Waivers.length:Nat):Int)>200))=true then some 3
 else jn (jn (some 0) (fun k12=>if ((a1.Waivers.length:Nat):Int)<=9223372036854775807 then M17_L2 F a1 k12 ((((a1.Waivers.length:Nat):Int):Int).toNat) 0 else none)) (fun k4=>M17_L1 F a1 k4 ((((a1.Rules.length:Nat):Int):Int).toNat) 0)
def M18(F:Nat)(a1:Int):Option (List UInt8):=
 if 0<=a1/\a1.toNat<5 then some ((arrOf [] [([]:List UInt8),([112,97,115,115]:List UInt8),([110,111,116,101]:List UInt8),([119,97,114,110]:List UInt8),([100,101,110,121]:List UInt8)]) a1.toNat) else none
def M43(F:Nat)(a1:Int):Option (List UInt8):=
 if 0<=a1/\a1.toNat<6 then some ((arrOf [] [([]:List UInt8),([60]:List UInt8),([60,61]:List UInt8),([61]:List UInt8),([62,61]:List UInt8),([62]:List UInt8)]) a1.toNat) else none
def M44(R19:TTest->Option (List UInt8))(F:Nat)(a1:TTest)(a2:Int):Option (List UInt8):=
 (R19 a1).bind fun y3=>if (a1.Kind==7)=true then if (a2==6)=true then if ([40]:List UInt8).length+y3.length<=9223372036854775807 then if (([40]:List UInt8)++y3).length+([41]:List UInt8).length<=9223372036854775807 then some ((([40]:List UInt8)++y3)++([41]:List UInt8)) else none else none
 else if (a1.Kind==a2)=true then if ([40]:List UInt8).length+y3.length<=9223372036854775807 then if (([40]:List UInt8)++y3).length+([41]:List UInt8).length<=9223372036854775807 then some ((([40]:List UInt8)++y3)++([41]:List UInt8)) else none else none
 else if (a2==7)=true then if ([40]:List UInt8).length+y3.length<=9223372036854775807 then if (([40]:List UInt8)++y3).length+([41]:List UInt8).length<=9223372036854775807 then some ((([40]:List UInt8)++y3)++([41]:List UInt8)) else none else none
 else some y3
 else if (a1.Kind==8)=true then if (a2==6)=true then if ([40]:List UInt8).length+y3.length<=9223372036854775807 then if (([40]:List UInt8)++y3).length+([41]:List UInt8).length<=9223372036854775807 then some ((([40]:List UInt8)++y3)++([41]:List UInt8)) else none else none
 else if (a1.Kind==a2)=true then if ([40]:List UInt8).length+y3.length<=9223372036854775807 then if (([40]:List UInt8)++y3).length+([41]:List UInt8).length<=9223372036854775807 then some ((([40]:List UInt8)++y3)++([41]:List UInt8)) else none else none
 else if (a2==7)=true then if ([40]:List UInt8).length+y3.length<=9223372036854775807 then if (([40]:List UInt8)++y3).length+([41]:List UInt8).length<=9223372036854775807 then some ((([40]:List UInt8)++y3)++([41]:List UInt8)) else none else none
 else some y3
 else some y3
def M20_L1(F:Nat)(a1:(List UInt8))(k2:(List Int)->Option (List UInt8)):Nat->Int->(List Int)->Option (List UInt8)
  |0,n6,l7=>k2 l7
  |tl1+1,n6,l7=>jn (fun(l10:List Int)=>M20_L1 F a1 k2 tl1 (n6+1) l10) (fun k9=>(idx a1 n6).bind fun c11=>if ((c11.toNat:Int)==34)=true then if (l7++([92]:List Int)).length*1<=140737488355328 then (idx a1 n6).bind fun c15=>if ((l7++([92]:List Int))++([(c15.toNat:Int)]:List Int)).length*1<=140737488355328 then k9 ((l7++([92]:List Int))++([(c15.toNat:Int)]:List Int)) else none else none
 else (idx a1 n6).bind fun c18=>jn (fun(l21:List Int)=>(idx a1 n6).bind fun c24=>if (l21++([(c24.toNat:Int)]:List Int)).length*1<=140737488355328 then k9 (l21++([(c24.toNat:Int)]:List Int)) else none) (fun k20=>if ((c18.toNat:Int)==92)=true then if (l7++([92]:List Int)).length*1<=140737488355328 then k20 (l7++([92]:List Int)) else none
 else k20 l7))
def M20(F:Nat)(a1:(List UInt8)):Option (List UInt8):=
 jn (fun(l3:List Int)=>if (l3++([34]:List Int)).length*1<=140737488355328 then some ((l3++([34]:List Int)).map fun n=>UInt8.ofNat n.toNat) else none) (fun k2=>if (a1.length:Int)<=9223372036854775807 then M20_L1 F a1 k2 (((a1.length:Int):Int).toNat) 0 ([34]:List Int) else none)
def M19_L2(F:Nat)(a1:TTest)(k54:(List UInt8)->Option (List UInt8)):Nat->Int->(List UInt8)->Option (List UInt8)
  |0,n59,s58=>k54 s58
  |tl2+1,n59,s58=>jn (fun(s62:List UInt8)=>(idx a1.Texts n59).bind fun x65=>(M20 F x65).bind fun y67=>if s62.length+y67.length<=9223372036854775807 then M19_L2 F a1 k54 tl2 (n59+1) (s62++y67) else none) (fun k61=>if (decide (n59>0))=true then if s58.length+([44,32]:List UInt8).length<=9223372036854775807 then k61 (s58++([44,32]:List UInt8)) else none
 else k61 s58)
def M19_L1(R19:TTest->Option (List UInt8))(F:Nat)(a1:TTest)(s28:List UInt8)(k30:(List UInt8)->Option (List UInt8)):Nat->Int->(List UInt8)->Option (List UInt8)
  |0,n35,s34=>k30 s34
  |tl1+1,n35,s34=>jn (fun(s38:List UInt8)=>(idx a1.Kids n35).bind fun x41=>(kdec encTTest x41).bind fun y43=>(M44 R19 F y43 a1.Kind).bind fun y45=>if s38.length+y45.length<=9223372036854775807 then M19_L1 R19 F a1 s28 k30 tl1 (n35+1) (s38++y45) else none) (fun k37=>if (decide (n35>0))=true then if s34.length+s28.length<=9223372036854775807 then k37 (s34++s28) else none
 else k37 s34)
def M19_B(R19:TTest->Option (List UInt8))(F:Nat)(a1:TTest):Option (List UInt8):=
 jn (if a1.Name.length+([32,105,115,32]:List UInt8).length<=9223372036854775807 then jn (fun(s51:List UInt8)=>jn (fun(s55:List UInt8)=>some s55) (fun k54=>if ((a1.Texts.length:Nat):Int)<=9223372036854775807 then M19_L2 F a1 k54 ((((a1.Texts.length:Nat):Int):Int).toNat) 0 s51 else none)) (fun k50=>if (a1.Kind==3)=true then if a1.Name.length+([32,98,101,103,105,110,115,32]:List UInt8).length<=9223372036854775807 then k50 (a1.Name++([32,98,101,103,105,110,115,32]:List UInt8)) else none
 else k50 (a1.Name++([32,105,115,32]:List UInt8))) else none) (fun k2=>if (a1.Kind==1)=true then some ([116,114,117,101]:List UInt8)
 else if (a1.Kind==4)=true then if ([104,97,115,32]:List UInt8).length+a1.Name.length<=9223372036854775807 then some (([104,97,115,32]:List UInt8)++a1.Name) else none
 else if (a1.Kind==5)=true then if a1.Name.length+([32]:List UInt8).length<=9223372036854775807 then (M43 F a1.Op).bind fun y8=>if (a1.Name++([32]:List UInt8)).length+y8.length<=9223372036854775807 then if ((a1.Name++([32]:List UInt8))++y8).length+([32]:List UInt8).length<=9223372036854775807 then (M14 F a1.N).bind fun y12=>if (((a1.Name++([32]:List UInt8))++y8)++([32]:List UInt8)).length+y12.length<=9223372036854775807 then some ((((a1.Name++([32]:List UInt8))++y8)++([32]:List UInt8))++y12) else none else none else none else none
 else if (a1.Kind==6)=true then (idx a1.Kids 0).bind fun x16=>(kdec encTTest x16).bind fun y18=>(M44 R19 F y18 6).bind fun y20=>if ([110,111,116,32]:List UInt8).length+y20.length<=9223372036854775807 then some (([110,111,116,32]:List UInt8)++y20) else none
 else jn (fun(b24:Bool)=>if b24=true then jn (fun(s28:List UInt8)=>jn (fun(s31:List UInt8)=>some s31) (fun k30=>if ((a1.Kids.length:Nat):Int)<=9223372036854775807 then M19_L1 R19 F a1 s28 k30 ((((a1.Kids.length:Nat):Int):Int).toNat) 0 ([]:List UInt8) else none)) (fun k27=>if (a1.Kind==8)=true then k27 ([32,111,114,32]:List UInt8)
 else k27 ([32,97,110,100,32]:List UInt8))
 else k2) (fun k23=>if (a1.Kind==7)=true then k23 (a1.Kind==7)
 else k23 (a1.Kind==8)))
def M19:Nat->TTest->Option (List UInt8)
 |0,_=>none
 |F+1,a1=>M19_B (M19 F) F a1
def M5_L2(F:Nat)(a1:TPolicy)(k28:(List UInt8)->Option ((List UInt8)×Int)):Nat->Int->(List UInt8)->Option ((List UInt8)×Int)
 |0,n33,s32=>k28 s32
 |tl2+1,n33,s32=>(idx a1.Waivers n33).bind fun x35=>if ([119,97,105,118,101,32]:List UInt8).length+x35.Rule.length<=9223372036854775807 then if (([119,97,105,118,101,32]:List UInt8)++x35.Rule).length+([32,102,111,114,32]:List UInt8).length<=9223372036854775807 then (M20 F x35.Subject).bind fun y39=>if ((([119,97,105,118,101,32]:List UInt8)++x35.Rule)++([32,102,111,114,32]:List UInt8)).length+y39.length<=9223372036854775807 then if (((([119,97,105,118,101,32]:List UInt8)++x35.Rule)++([32,102,111,114,32]:List UInt8))++y39).length+([32,102,114,111,109,32]:List UInt8).length<=9223372036854775807 then (M14 F x35.From).bind fun y43=>if ((((([119,97,105,118,101,32]:List UInt8)++x35.Rule)++([32,102,111,114,32]:List UInt8))++y39)++([32,102,114,111,109,32]:List UInt8)).length+y43.length<=9223372036854775807 then if (((((([119,97,105,118,101,32]:List UInt8)++x35.Rule)++([32,102,111,114,32]:List UInt8))++y39)++([32,102,114,111,109,32]:List UInt8))++y43).length+([32,116,111,32]:List UInt8).length<=9223372036854775807 then (M14 F x35.To).bind fun y47=>if ((((((([119,97,105,118,101,32]:List UInt8)++x35.Rule)++([32,102,111,114,32]:List UInt8))++y39)++([32,102,114,111,109,32]:List UInt8))++y43)++([32,116,111,32]:List UInt8)).length+y47.length<=9223372036854775807 then if (((((((([119,97,105,118,101,32]:List UInt8)++x35.Rule)++([32,102,111,114,32]:List UInt8))++y39)++([32,102,114,111,109,32]:List UInt8))++y43)++([32,116,111,32]:List UInt8))++y47).length+([32,98,121,32]:List UInt8).length<=9223372036854775807 then if ((((((((([119,97,105,118,101,32]:List UInt8)++x35.Rule)++([32,102,111,114,32]:List UInt8))++y39)++([32,102,114,111,109,32]:List UInt8))++y43)++([32,116,111,32]:List UInt8))++y47)++([32,98,121,32]:List UInt8)).length+x35.Owner.length<=9223372036854775807 then if (((((((((([119,97,105,118,101,32]:List UInt8)++x35.Rule)++([32,102,111,114,32]:List UInt8))++y39)++([32,102,114,111,109,32]:List UInt8))++y43)++([32,116,111,32]:List UInt8))++y47)++([32,98,121,32]:List UInt8))++x35.Owner).length+([32,97,115,32]:List UInt8).length<=9223372036854775807 then (M18 F x35.Level).bind fun y53=>if ((((((((((([119,97,105,118,101,32]:List UInt8)++x35.Rule)++([32,102,111,114,32]:List UInt8))++y39)++([32,102,114,111,109,32]:List UInt8))++y43)++([32,116,111,32]:List UInt8))++y47)++([32,98,121,32]:List UInt8))++x35.Owner)++([32,97,115,32]:List UInt8)).length+y53.length<=9223372036854775807 then if (((((((((((([119,97,105,118,101,32]:List UInt8)++x35.Rule)++([32,102,111,114,32]:List UInt8))++y39)++([32,102,114,111,109,32]:List UInt8))++y43)++([32,116,111,32]:List UInt8))++y47)++([32,98,121,32]:List UInt8))++x35.Owner)++([32,97,115,32]:List UInt8))++y53).length+([10]:List UInt8).length<=9223372036854775807 then if s32.length+((((((((((((([119,97,105,118,101,32]:List UInt8)++x35.Rule)++([32,102,111,114,32]:List UInt8))++y39)++([32,102,114,111,109,32]:List UInt8))++y43)++([32,116,111,32]:List UInt8))++y47)++([32,98,121,32]:List UInt8))++x35.Owner)++([32,97,115,32]:List UInt8))++y53)++([10]:List UInt8)).length<=9223372036854775807 then M5_L2 F a1 k28 tl2 (n33+1) (s32++((((((((((((([119,97,105,118,101,32]:List UInt8)++x35.Rule)++([32,102,111,114,32]:List UInt8))++y39)++([32,102,114,111,109,32]:List UInt8))++y43)++([32,116,111,32]:List UInt8))++y47)++([32,98,121,32]:List UInt8))++x35.Owner)++([32,97,115,32]:List UInt8))++y53)++([10]:List UInt8))) else none else none else none else none else none else none else none else none else none else none else none else none else none
def M5_L1(F:Nat)(a1:TPolicy)(k5:(List UInt8)->Option ((List UInt8)×Int)):Nat->Int->(List UInt8)->Option ((List UInt8)×Int)
 |0,n10,s9=>k5 s9
 |tl1+1,n10,s9=>(idx a1.Rules n10).bind fun x12=>if ([114,117,108,101,32]:List UInt8).length+x12.Name.length<=9223372036854775807 then if (([114,117,108,101,32]:List UInt8)++x12.Name).length+([32,97,98,111,117,116,32]:List UInt8).length<=9223372036854775807 then if ((([114,117,108,101,32]:List UInt8)++x12.Name)++([32,97,98,111,117,116,32]:List UInt8)).length+x12.About.length<=9223372036854775807 then if (((([114,117,108,101,32]:List UInt8)++x12.Name)++([32,97,98,111,117,116,32]:List UInt8))++x12.About).length+([32]:List UInt8).length<=9223372036854775807 then (M18 F x12.Level).bind fun y18=>if ((((([114,117,108,101,32]:List UInt8)++x12.Name)++([32,97,98,111,117,116,32]:List UInt8))++x12.About)++([32]:List UInt8)).length+y18.length<=9223372036854775807 then if (((((([114,117,108,101,32]:List UInt8)++x12.Name)++([32,97,98,111,117,116,32]:List UInt8))++x12.About)++([32]:List UInt8))++y18).length+([32,119,104,101,110,32]:List UInt8).length<=9223372036854775807 then (M19 F x12.When).bind fun y22=>if ((((((([114,117,108,101,32]:List UInt8)++x12.Name)++([32,97,98,111,117,116,32]:List UInt8))++x12.About)++([32]:List UInt8))++y18)++([32,119,104,101,110,32]:List UInt8)).length+y22.length<=9223372036854775807 then if (((((((([114,117,108,101,32]:List UInt8)++x12.Name)++([32,97,98,111,117,116,32]:List UInt8))++x12.About)++([32]:List UInt8))++y18)++([32,119,104,101,110,32]:List UInt8))++y22).length+([10]:List UInt8).length<=9223372036854775807 then if s9.length+((((((((([114,117,108,101,32]:List UInt8)++x12.Name)++([32,97,98,111,117,116,32]:List UInt8))++x12.About)++([32]:List UInt8))++y18)++([32,119,104,101,110,32]:List UInt8))++y22)++([10]:List UInt8)).length<=9223372036854775807 then M5_L1 F a1 k5 tl1 (n10+1) (s9++((((((((([114,117,108,101,32]:List UInt8)++x12.Name)++([32,97,98,111,117,116,32]:List UInt8))++x12.About)++([32]:List UInt8))++y18)++([32,119,104,101,110,32]:List UInt8))++y22)++([10]:List UInt8))) else none else none else none else none else none else none else none else none else none
def M5(F:Nat)(a1:TPolicy):Option ((List UInt8)×Int):=
 (M17 F a1).bind fun y2=>if (y2 != 0)=true then some (([]:List UInt8),y2)
 else jn (fun(s6:List UInt8)=>jn (fun(s29:List UInt8)=>if (decide ((s29.length:Int)>200000))=true then some (([]:List UInt8),3)
 else some (s29,0)) (fun k28=>if ((a1.Waivers.length:Nat):Int)<=9223372036854775807 then M5_L2 F a1 k28 ((((a1.Waivers.length:Nat):Int):Int).toNat) 0 s6 else none)) (fun k5=>if ((a1.Rules.length:Nat):Int)<=9223372036854775807 then M5_L1 F a1 k5 ((((a1.Rules.length:Nat):Int):Int).toNat) 0 ([]:List UInt8) else none)
def M6(F:Nat):Option Bool:=some true
def M48_L2(F:Nat)(a1:Tpolicy_reader)(k43:Int->Option Int):Nat->Int->Option Int
 |0,_=>none
 |n+1,n46=>if (decide (n46<(a1.s.length:Int)))=true then (idx a1.s n46).bind fun c48=>if ((c48.toNat:Int) != 10)=true then M48_L2 F a1 k43 n (w64 (n46+1))
 else k43 n46
 else k43 n46
def M48_L1(F:Nat)(a1:Tpolicy_reader):Nat->Int->Option Int
 |0,_=>none
 |n+1,n28=>if (decide (n28<(a1.s.length:Int)))=true then jn (fun(n31:Int)=>M48_L1 F a1 n n31) (fun k30=>(idx a1.s n28).bind fun c32=>jn (fun(n35:Int)=>k30 n35) (fun k34=>if ((c32.toNat:Int)==32)=true then k34 (w64 (n28+1))
 else if ((c32.toNat:Int)==9)=true then k34 (w64 (n28+1))
 else if ((c32.toNat:Int)==10)=true then k34 (w64 (n28+1))
 else jn (fun(n40:Int)=>k34 n40) (fun k39=>if ((c32.toNat:Int)==13)=true then k39 (w64 (n28+1))
 else if ((c32.toNat:Int)==35)=true then jn (fun(n44:Int)=>k39 n44) (fun k43=>M48_L2 F a1 k43 F n28)
 else some n28)))
 else some n28
def M48(F:Nat)(a1:Tpolicy_reader):Option Int:=
 M48_L1 F a1 F a1.end_
def M49(F:Nat)(a1:Int):Option Bool:=
 if (decide (a1>=97))=true then if (decide (a1<=122))=true then some true
 else if (decide (a1>=48))=true then if (decide (a1<=57))=true then some true
 else some (a1==45)
 else some (a1==45)
 else if (decide (a1>=48))=true then if (decide (a1<=57))=true then some true
 else some (a1==45)
 else some (a1==45)
def M50_L1(F:Nat)(a1:Tpolicy_reader)(k32:Option ((List UInt8)×Bool×Int)):Nat->Int->(List Int)->Option ((List UInt8)×Bool×Int)
 |0,_,_=>none
 |n+1,n35,l36=>if (decide (n35<(a1.s.length:Int)))=true then (idx a1.s n35).bind fun c38=>jn (fun(n41:Int) (n42:Int)=>if (l36++([n42]:List Int)).length*1<=140737488355328 then M50_L1 F a1 k32 n (w64 (n41+1)) (l36++([n42]:List Int)) else none) (fun k40=>if ((c38.toNat:Int)==34)=true then some ((l36.map fun n=>UInt8.ofNat n.toNat),true,(w64 (n35+1)))
 else if (decide ((c38.toNat:Int)<32))=true then some (([]:List UInt8),false,a1.end_)
 else if (decide ((c38.toNat:Int)>126))=true then some (([]:List UInt8),false,a1.end_)
 else if ((c38.toNat:Int)==92)=true then if ((w64 (n35+1))==(a1.s.length:Int))=true then some (([]:List UInt8),false,a1.end_)
 else (idx a1.s (w64 (n35+1))).bind fun c48=>if ((c48.toNat:Int) != 34)=true then (idx a1.s (w64 (n35+1))).bind fun c51=>if ((c51.toNat:Int) != 92)=true then some (([]:List UInt8),false,a1.end_)
 else (idx a1.s (w64 (n35+1))).bind fun c54=>k40 (w64 (n35+1)) (c54.toNat:Int)
 else (idx a1.s (w64 (n35+1))).bind fun c56=>k40 (w64 (n35+1)) (c56.toNat:Int)
 else k40 n35 (c38.toNat:Int))
 else k32
def M50(F:Nat)(a1:Tpolicy_reader):Option ((List UInt8)×Bool×Int):=
 jn (some (([]:List UInt8),false,a1.end_)) (fun k32=>M50_L1 F a1 k32 F (w64 (a1.end_+1)) ([]:List Int))
def M26(F:Nat)(a1:Int)(a2:Int)(a3:Tpolicy_reader):Option (Int×Int):=
 if (a3.bad==0)=true then some (a1,a2)
 else some (a3.at_,a3.bad)
def M79(F:Nat)(a1:(List UInt8))(a2:(List UInt8)):Option Bool:=
 if (decide ((a1.length:Int)>=(a2.length:Int)))=true then if 0<=(a2.length:Int)/\(a2.length:Int).toNat<=a1.length then some ((a1.take (a2.length:Int).toNat)==a2) else none
 else some false
def M51(F:Nat)(a1:(List UInt8))(a2:(List UInt8)):Option Bool:=
 (M79 F a1 a2).bind fun y3=>some y3
def M22_L1(F:Nat)(a1:Tpolicy_reader)(k90:Int->Option (Int×Int×(List UInt8)×Int×Int×Int)):Nat->Int->Option (Int×Int×(List UInt8)×Int×Int×Int)
 |0,_=>none
 |n+1,n93=>if (decide (n93<(a1.s.length:Int)))=true then (idx a1.s n93).bind fun c95=>(M49 F (c95.toNat:Int)).bind fun y97=>if y97=true then M22_L1 F a1 k90 n (w64 (n93+1))
 else k90 n93
 else k90 n93
def M22_L2(F:Nat)(a1:Tpolicy_reader)(y70:Int)(k112:Int->Option (Int×Int×(List UInt8)×Int×Int×Int)):Nat->Int->Option (Int×Int×(List UInt8)×Int×Int×Int)
  |0,n115=>k112 0
  |tl2+1,n115=>(idx ([([60,61]:List UInt8),([62,61]:List UInt8),([60]:List UInt8),([62]:List UInt8),([61]:List UInt8),([40]:List UInt8),([41]:List UInt8),([44]:List UInt8)]:List (List UInt8)) n115).bind fun x117=>if 0<=y70/\y70.toNat<=a1.s.length then (M51 F (a1.s.drop y70.toNat) x117).bind fun y120=>if y120=true then k112 (x117.length:Int)
 else M22_L2 F a1 y70 k112 tl2 (n115+1) else none
def M22(F:Nat)(a1:Tpolicy_reader):Option (Int×Int×(List UInt8)×Int×Int×Int):=
 (M48 F a1).bind fun y70=>jn (fun(n73:Int) (n74:Int) (n75:Int) (n76:Int) (s77:List UInt8)=>some (n73,n76,s77,y70,n74,n75)) (fun k72=>jn (fun(n79:Int) (n80:Int) (n81:Int) (n82:Int) (s83:List UInt8)=>k72 n79 n80 n81 n82 s83) (fun k78=>if (y70==(a1.s.length:Int))=true then k78 y70 a1.at_ a1.bad 0 ([]:List UInt8)
 else (idx a1.s y70).bind fun c85=>(M49 F (c85.toNat:Int)).bind fun y87=>if y87=true then jn (fun(n91:Int)=>if 0<=y70/\0<=n91/\y70.toNat<=n91.toNat/\n91.toNat<=a1.s.length then k78 n91 a1.at_ a1.bad 1 ((a1.s.drop y70.toNat).take (n91.toNat - y70.toNat)) else none) (fun k90=>M22_L1 F a1 k90 F y70)
 else (idx a1.s y70).bind fun c101=>if ((c101.toNat:Int)==34)=true then (M50 F (Tpolicy_reader.mk a1.s y70 a1.now a1.at_ a1.bad)).bind fun y104=>jn (fun(n107:Int) (n108:Int)=>k78 (y104.2.2) n107 n108 2 (y104.1)) (fun k106=>if (!(y104.2.1))=true then (M26 F y70 6 (Tpolicy_reader.mk a1.s (y104.2.2) a1.now a1.at_ a1.bad)).bind fun y110=>k106 (y110.1) (y110.2)
 else k106 a1.at_ a1.bad)
 else jn (fun(n113:Int)=>jn (fun(n125:Int) (n126:Int) (n127:Int)=>if 0<=y70/\0<=(w64 (y70+n125))/\y70.toNat<=(w64 (y70+n125)).toNat/\(w64 (y70+n125)).toNat<=a1.s.length then k78 (w64 (y70+n125)) n126 n127 3 ((a1.s.drop y70.toNat).take ((w64 (y70+n125)).toNat - y70.toNat)) else none) (fun k124=>if (n113==0)=true then (M26 F y70 6 (Tpolicy_reader.mk a1.s y70 a1.now a1.at_ a1.bad)).bind fun y129=>k124 1 (y129.1) (y129.2)
 else k124 n113 a1.at_ a1.bad)) (fun k112=>if ((8:Nat):Int)<=9223372036854775807 then M22_L2 F a1 y70 k112 ((((8:Nat):Int):Int).toNat) 0 else none)))
def M23(F:Nat)(a1:Int)(a2:(List UInt8))(a3:Tpolicy_reader):Option (Bool×Int×Int×(List UInt8)×Int×Int×Int):=
 if (a3.bad != 0)=true then some (false,a3.end_,a3.now.kind,a3.now.text,a3.now.at_,a3.at_,a3.bad)
 else if (a3.now.kind != a1)=true then some (false,a3.end_,a3.now.kind,a3.now.text,a3.now.at_,a3.at_,a3.bad)
 else if (!(a3.now.text==a2))=true then some (false,a3.end_,a3.now.kind,a3.now.text,a3.now.at_,a3.at_,a3.bad)
 else (M22 F a3).bind fun y19=>some (true,(y19.1),(y19.2.1),(y19.2.2.1),(y19.2.2.2.1),(y19.2.2.2.2.1),(y19.2.2.2.2.2))
def M52(F:Nat)(a1:Tpolicy_reader):Option ((List UInt8)×Int×Int×(List UInt8)×Int×Int×Int):=
 if (a1.now.kind != 1)=true then (M26 F a1.now.at_ 6 a1).bind fun y20=>some (([]:List UInt8),a1.end_,a1.now.kind,a1.now.text,a1.now.at_,(y20.1),(y20.2))
 else (M30 F a1.now.text).bind fun y22=>if (!y22)=true then (M26 F a1.now.at_ 6 a1).bind fun y25=>some (([]:List UInt8),a1.end_,a1.now.kind,a1.now.text,a1.now.at_,(y25.1),(y25.2))
 else (M22 F a1).bind fun y27=>some (a1.now.text,(y27.1),(y27.2.1),(y27.2.2.1),(y27.2.2.2.1),(y27.2.2.2.2.1),(y27.2.2.2.2.2))
def M53(F:Nat)(a1:(List UInt8))(a2:Tpolicy_reader):Option (Int×Int×(List UInt8)×Int×Int×Int):=
 (M23 F 1 a1 a2).bind fun y14=>if (!(y14.1))=true then (M26 F (y14.2.2.2.2.1) 6 (Tpolicy_reader.mk a2.s (y14.2.1) (Tpolicy_token.mk (y14.2.2.1) (y14.2.2.2.1) (y14.2.2.2.2.1)) (y14.2.2.2.2.2.1) (y14.2.2.2.2.2.2))).bind fun y17=>some ((y14.2.1),(y14.2.2.1),(y14.2.2.2.1),(y14.2.2.2.2.1),(y17.1),(y17.2))
 else some ((y14.2.1),(y14.2.2.1),(y14.2.2.2.1),(y14.2.2.2.2.1),(y14.2.2.2.2.2.1),(y14.2.2.2.2.2.2))
def M80_L1(F:Nat)(a2:(List UInt8))(k3:Option Int):List (List UInt8)->Int->Option Int
  |[],n5=>k3
  |x7::tl1,n5=>if (a2==x7)=true then some n5
 else M80_L1 F a2 k3 tl1 (n5+1)
def M80(F:Nat)(a1:(List (List UInt8)))(a2:(List UInt8)):Option Int:=
 jn (some (-1)) (fun k3=>M80_L1 F a2 k3 a1 0)
def M54(F:Nat)(a1:Tpolicy_reader):Option (Int×Int×Int×(List UInt8)×Int×Int×Int):=
 (M11 F).bind fun y21=>(M80 F y21 a1.now.text).bind fun y23=>if (a1.now.kind != 1)=true then (M26 F a1.now.at_ 6 a1).bind fun y26=>some (0,a1.end_,a1.now.kind,a1.now.text,a1.now.at_,(y26.1),(y26.2))
 else if (decide (y23<=0))=true then (M26 F a1.now.at_ 6 a1).bind fun y29=>some (0,a1.end_,a1.now.kind,a1.now.text,a1.now.at_,(y29.1),(y29.2))
 else (M22 F a1).bind fun y31=>some (y23,(y31.1),(y31.2.1),(y31.2.2.1),(y31.2.2.2.1),(y31.2.2.2.2.1),(y31.2.2.2.2.2))
def M56(F:Nat)(a1:Tpolicy_reader):Option ((List UInt8)×Int×Int×(List UInt8)×Int×Int×Int):=
 if (a1.now.kind != 2)=true then (M26 F a1.now.at_ 6 a1).bind fun y15=>some (([]:List UInt8),a1.end_,a1.now.kind,a1.now.text,a1.now.at_,(y15.1),(y15.2))
 else (M22 F a1).bind fun y17=>some (a1.now.text,(y17.1),(y17.2.1),(y17.2.2.1),(y17.2.2.2.1),(y17.2.2.2.2.1),(y17.2.2.2.2.2))
def M132_L1(F:Nat)(a1:Tpolicy_reader)(k41:Int->Int->(List UInt8)->Int->Int->Int->(List (List UInt8))->Option ((List (List UInt8))×Int×Int×(List UInt8)×Int×Int×Int)):Nat->Int->Int->(List UInt8)->Int->Int->Int->(List (List UInt8))->Option ((List (List UInt8))×Int×Int×(List UInt8)×Int×Int×Int)
 |0,_,_,_,_,_,_,_=>none
 |n+1,n56,n57,s58,n59,n60,n61,l62=>(M23 F 3 ([44]:List UInt8) (Tpolicy_reader.mk a1.s n56 (Tpolicy_token.mk n57 s58 n59) n60 n61)).bind fun y63=>if (y63.1)=true then (M56 F (Tpolicy_reader.mk a1.s (y63.2.1) (Tpolicy_token.mk (y63.2.2.1) (y63.2.2.2.1) (y63.2.2.2.2.1)) (y63.2.2.2.2.2.1) (y63.2.2.2.2.2.2))).bind fun y66=>if (l62++([(y66.1)]:List (List UInt8))).length*16<=140737488355328 then M132_L1 F a1 k41 n (y66.2.1) (y66.2.2.1) (y66.2.2.2.1) (y66.2.2.2.2.1) (y66.2.2.2.2.2.1) (y66.2.2.2.2.2.2) (l62++([(y66.1)]:List (List UInt8))) else none
 else k41 (y63.2.1) (y63.2.2.1) (y63.2.2.2.1) (y63.2.2.2.2.1) (y63.2.2.2.2.2.1) (y63.2.2.2.2.2.2) l62
def M132(F:Nat)(a1:Tpolicy_reader):Option ((List (List UInt8))×Int×Int×(List UInt8)×Int×Int×Int):=
 (M56 F a1).bind fun y39=>jn (fun(n42:Int) (n43:Int) (s44:List UInt8) (n45:Int) (n46:Int) (n47:Int) (l48:List (List UInt8))=>some (l48,n42,n43,s44,n45,n46,n47)) (fun k41=>M132_L1 F a1 k41 F (y39.2.1) (y39.2.2.1) (y39.2.2.2.1) (y39.2.2.2.2.1) (y39.2.2.2.2.2.1) (y39.2.2.2.2.2.2) ([(y39.1)]:List (List UInt8)))
def M114(F:Nat)(a1:(List UInt8))(a2:(List UInt8)):Option ((List UInt8)×Bool):=
 (M79 F a1 a2).bind fun y3=>if (!y3)=true then some (a1,false)
 else if 0<=(a2.length:Int)/\(a2.length:Int).toNat<=a1.length then some ((a1.drop (a2.length:Int).toNat),true) else none
def M85(F:Nat)(a1:(List UInt8))(a2:(List UInt8)):Option ((List UInt8)×Bool):=
 (M114 F a1 a2).bind fun y3=>some ((y3.1),(y3.2))
def M86(F:Nat)(a1:(List UInt8)):Option (Int×Unit):=match Lib.atoi a1 with|some n=>if a1.length<=18 then some (n,()) else none|none=>none
def M57_L1(F:Nat)(y139:((List UInt8)×Bool))(k144:Bool->Option (Int×Int×Int×(List UInt8)×Int×Int×Int)):Nat->Int->Bool->Option (Int×Int×Int×(List UInt8)×Int×Int×Int)
  |0,n149,b148=>k144 b148
  |tl1+1,n149,b148=>jn (fun(b152:Bool)=>M57_L1 F y139 k144 tl1 (n149+1) b152) (fun k151=>if b148=true then (idx (y139.1) n149).bind fun c154=>if (decide ((c154.toNat:Int)>=48))=true then (idx (y139.1) n149).bind fun c157=>k151 (decide ((c157.toNat:Int)<=57))
 else k151 false
 else k151 false)
def M57_L2(F:Nat)(k191:Option (Int×Int×Int×(List UInt8)×Int×Int×Int)):Nat->Option (Int×Int×Int×(List UInt8)×Int×Int×Int)
 |0=>k191
 |tl2+1=>M57_L2 F k191 tl2
def M57_L3(F:Nat)(y139:((List UInt8)×Bool))(k200:Bool->Option (Int×Int×Int×(List UInt8)×Int×Int×Int)):Nat->Int->Bool->Option (Int×Int×Int×(List UInt8)×Int×Int×Int)
  |0,n205,b204=>k200 b204
  |tl3+1,n205,b204=>jn (fun(b208:Bool)=>M57_L3 F y139 k200 tl3 (n205+1) b208) (fun k207=>if b204=true then (idx (y139.1) n205).bind fun c210=>if (decide ((c210.toNat:Int)>=48))=true then (idx (y139.1) n205).bind fun c213=>k207 (decide ((c213.toNat:Int)<=57))
 else k207 false
 else k207 false)
def M57_L4(F:Nat)(k247:Option (Int×Int×Int×(List UInt8)×Int×Int×Int)):Nat->Option (Int×Int×Int×(List UInt8)×Int×Int×Int)
 |0=>k247
 |tl4+1=>M57_L4 F k247 tl4
def M57_L5(F:Nat)(k254:Option (Int×Int×Int×(List UInt8)×Int×Int×Int)):Nat->Option (Int×Int×Int×(List UInt8)×Int×Int×Int)
 |0=>k254
 |tl5+1=>M57_L5 F k254 tl5
def M57_L6(F:Nat)(k261:Option (Int×Int×Int×(List UInt8)×Int×Int×Int)):Nat->Option (Int×Int×Int×(List UInt8)×Int×Int×Int)
 |0=>k261
 |tl6+1=>M57_L6 F k261 tl6
def M57(F:Nat)(a1:Bool)(a2:Tpolicy_reader):Option (Int×Int×Int×(List UInt8)×Int×Int×Int):=
 (M85 F a2.now.text ([45]:List UInt8)).bind fun y139=>if (a2.now.kind==1)=true then if a1=true then if (!((y139.1)==([]:List UInt8)))=true then jn (fun(b145:Bool)=>if b145=true then (idx (y139.1) 0).bind fun c161=>if ((c161.toNat:Int)==48)=true then if (decide (((y139.1).length:Int)>1))=true then (M26 F a2.now.at_ 6 a2).bind fun y165=>some (0,a2.end_,a2.now.kind,a2.now.text,a2.now.at_,(y165.1),(y165.2))
 else jn (fun(b168:Bool)=>if (!b168)=true then (M26 F a2.now.at_ 6 a2).bind fun y171=>some (0,a2.end_,a2.now.kind,a2.now.text,a2.now.at_,(y171.1),(y171.2))
 else (M86 F a2.now.text).bind fun y173=>(M22 F a2).bind fun y175=>some ((y173.1),(y175.1),(y175.2.1),(y175.2.2.1),(y175.2.2.2.1),(y175.2.2.2.2.1),(y175.2.2.2.2.2))) (fun k167=>if (y139.2)=true then k167 false
 else k167 b145)
 else if (!b145)=true then (M26 F a2.now.at_ 6 a2).bind fun y178=>some (0,a2.end_,a2.now.kind,a2.now.text,a2.now.at_,(y178.1),(y178.2))
 else (M86 F a2.now.text).bind fun y180=>(M22 F a2).bind fun y182=>some ((y180.1),(y182.1),(y182.2.1),(y182.2.2.1),(y182.2.2.2.1),(y182.2.2.2.2.1),(y182.2.2.2.2.2))
 else if (!b145)=true then (M26 F a2.now.at_ 6 a2).bind fun y185=>some (0,a2.end_,a2.now.kind,a2.now.text,a2.now.at_,(y185.1),(y185.2))
 else (M86 F a2.now.text).bind fun y187=>(M22 F a2).bind fun y189=>some ((y187.1),(y189.1),(y189.2.1),(y189.2.2.1),(y189.2.2.2.1),(y189.2.2.2.2.1),(y189.2.2.2.2.2))) (fun k144=>if ((y139.1).length:Int)<=9223372036854775807 then M57_L1 F y139 k144 ((((y139.1).length:Int):Int).toNat) 0 (decide (((y139.1).length:Int)<=13)) else none)
 else jn ((M26 F a2.now.at_ 6 a2).bind fun y196=>some (0,a2.end_,a2.now.kind,a2.now.text,a2.now.at_,(y196.1),(y196.2))) (fun k191=>if ((y139.1).length:Int)<=9223372036854775807 then M57_L2 F k191 ((((y139.1).length:Int):Int).toNat) else none)
 else if (!(y139.2))=true then if (!((y139.1)==([]:List UInt8)))=true then jn (fun(b201:Bool)=>if b201=true then (idx (y139.1) 0).bind fun c217=>if ((c217.toNat:Int)==48)=true then if (decide (((y139.1).length:Int)>1))=true then (M26 F a2.now.at_ 6 a2).bind fun y221=>some (0,a2.end_,a2.now.kind,a2.now.text,a2.now.at_,(y221.1),(y221.2))
 else jn (fun(b224:Bool)=>if (!b224)=true then (M26 F a2.now.at_ 6 a2).bind fun y227=>some (0,a2.end_,a2.now.kind,a2.now.text,a2.now.at_,(y227.1),(y227.2))
 else (M86 F a2.now.text).bind fun y229=>(M22 F a2).bind fun y231=>some ((y229.1),(y231.1),(y231.2.1),(y231.2.2.1),(y231.2.2.2.1),(y231.2.2.2.2.1),(y231.2.2.2.2.2))) (fun k223=>if (y139.2)=true then k223 false
 else k223 b201)
 else if (!b201)=true then (M26 F a2.now.at_ 6 a2).bind fun y234=>some (0,a2.end_,a2.now.kind,a2.now.text,a2.now.at_,(y234.1),(y234.2))
 else (M86 F a2.now.text).bind fun y236=>(M22 F a2).bind fun y238=>some ((y236.1),(y238.1),(y238.2.1),(y238.2.2.1),(y238.2.2.2.1),(y238.2.2.2.2.1),(y238.2.2.2.2.2))
 else if (!b201)=true then (M26 F a2.now.at_ 6 a2).bind fun y241=>some (0,a2.end_,a2.now.kind,a2.now.text,a2.now.at_,(y241.1),(y241.2))
 else (M86 F a2.now.text).bind fun y243=>(M22 F a2).bind fun y245=>some ((y243.1),(y245.1),(y245.2.1),(y245.2.2.1),(y245.2.2.2.1),(y245.2.2.2.2.1),(y245.2.2.2.2.2))) (fun k200=>if ((y139.1).length:Int)<=9223372036854775807 then M57_L3 F y139 k200 ((((y139.1).length:Int):Int).toNat) 0 (decide (((y139.1).length:Int)<=13)) else none)
 else jn ((M26 F a2.now.at_ 6 a2).bind fun y252=>some (0,a2.end_,a2.now.kind,a2.now.text,a2.now.at_,(y252.1),(y252.2))) (fun k247=>if ((y139.1).length:Int)<=9223372036854775807 then M57_L4 F k247 ((((y139.1).length:Int):Int).toNat) else none)
 else jn ((M26 F a2.now.at_ 6 a2).bind fun y259=>some (0,a2.end_,a2.now.kind,a2.now.text,a2.now.at_,(y259.1),(y259.2))) (fun k254=>if ((y139.1).length:Int)<=9223372036854775807 then M57_L5 F k254 ((((y139.1).length:Int):Int).toNat) else none)
 else jn ((M26 F a2.now.at_ 6 a2).bind fun y266=>some (0,a2.end_,a2.now.kind,a2.now.text,a2.now.at_,(y266.1),(y266.2))) (fun k261=>if ((y139.1).length:Int)<=9223372036854775807 then M57_L6 F k261 ((((y139.1).length:Int):Int).toNat) else none)
def M113_L1(F:Nat)(a1:Tpolicy_reader)(y85:((List UInt8)×Int×Int×(List UInt8)×Int×Int×Int))(y116:(Nat->(List UInt8)))(k118:Int->Int->(List UInt8)->Int->Int->Int->Option (Int×Int×(List UInt8)×Int×Int×Int×Int×(List UInt8)×(List (List UInt8))×Int×Int)):Nat->Int->Int->Int->(List UInt8)->Int->Int->Int->Option (Int×Int×(List UInt8)×Int×Int×Int×Int×(List UInt8)×(List (List UInt8))×Int×Int)
  |0,n132,n133,n134,s135,n136,n137,n138=>k118 n133 n134 s135 n136 n137 n138
  |tl1+1,n132,n133,n134,s135,n136,n137,n138=>jn (fun(n141:Int) (n142:Int) (s143:List UInt8) (n144:Int) (n145:Int) (n146:Int)=>M113_L1 F a1 y85 y116 k118 tl1 (n132+1) n141 n142 s143 n144 n145 n146) (fun k140=>if 0<=n132/\n132.toNat<6 then if (decide (n132>0))=true then (M23 F 3 (y116 n132.toNat) (Tpolicy_reader.mk a1.s n133 (Tpolicy_token.mk n134 s135 n136) n137 n138)).bind fun y149=>if (y149.1)=true then (M57 F true (Tpolicy_reader.mk a1.s (y149.2.1) (Tpolicy_token.mk (y149.2.2.1) (y149.2.2.2.1) (y149.2.2.2.2.1)) (y149.2.2.2.2.2.1) (y149.2.2.2.2.2.2))).bind fun y152=>some ((y152.2.1),(y152.2.2.1),(y152.2.2.2.1),(y152.2.2.2.2.1),(y152.2.2.2.2.2.1),(y152.2.2.2.2.2.2),5,(y85.1),([]:List (List UInt8)),n132,(y152.1))
 else k140 (y149.2.1) (y149.2.2.1) (y149.2.2.2.1) (y149.2.2.2.2.1) (y149.2.2.2.2.2.1) (y149.2.2.2.2.2.2)
 else k140 n133 n134 s135 n136 n137 n138 else none)
def M113(F:Nat)(a1:Tpolicy_reader):Option (Int×Int×(List UInt8)×Int×Int×Int×Int×(List UInt8)×(List (List UInt8))×Int×Int):=
 (M52 F a1).bind fun y85=>jn (fun(n88:Int) (n89:Int) (s90:List UInt8) (n91:Int) (n92:Int) (n93:Int) (n94:Int) (l95:List (List UInt8))=>some (n88,n89,s90,n91,n92,n93,n94,(y85.1),l95,0,0)) (fun k87=>jn (fun(n97:Int) (n98:Int) (s99:List UInt8) (n100:Int) (n101:Int) (n102:Int) (n103:Int) (l104:List (List UInt8))=>k87 n97 n98 s99 n100 n101 n102 n103 l104) (fun k96=>if ((y85.2.2.2.2.2.2) != 0)=true then k96 (y85.2.1) (y85.2.2.1) (y85.2.2.2.1) (y85.2.2.2.2.1) (y85.2.2.2.2.2.1) (y85.2.2.2.2.2.2) 0 ([]:List (List UInt8))
 else (M23 F 1 ([105,115]:List UInt8) (Tpolicy_reader.mk a1.s (y85.2.1) (Tpolicy_token.mk (y85.2.2.1) (y85.2.2.2.1) (y85.2.2.2.2.1)) (y85.2.2.2.2.2.1) (y85.2.2.2.2.2.2))).bind fun y106=>if (y106.1)=true then (M132 F (Tpolicy_reader.mk a1.s (y106.2.1) (Tpolicy_token.mk (y106.2.2.1) (y106.2.2.2.1) (y106.2.2.2.2.1)) (y106.2.2.2.2.2.1) (y106.2.2.2.2.2.2))).bind fun y109=>k96 (y109.2.1) (y109.2.2.1) (y109.2.2.2.1) (y109.2.2.2.2.1) (y109.2.2.2.2.2.1) (y109.2.2.2.2.2.2) 2 (y109.1)
 else (M23 F 1 ([98,101,103,105,110,115]:List UInt8) (Tpolicy_reader.mk a1.s (y106.2.1) (Tpolicy_token.mk (y106.2.2.1) (y106.2.2.2.1) (y106.2.2.2.2.1)) (y106.2.2.2.2.2.1) (y106.2.2.2.2.2.2))).bind fun y111=>if (y111.1)=true then (M132 F (Tpolicy_reader.mk a1.s (y111.2.1) (Tpolicy_token.mk (y111.2.2.1) (y111.2.2.2.1) (y111.2.2.2.2.1)) (y111.2.2.2.2.2.1) (y111.2.2.2.2.2.2))).bind fun y114=>k96 (y114.2.1) (y114.2.2.1) (y114.2.2.2.1) (y114.2.2.2.2.1) (y114.2.2.2.2.2.1) (y114.2.2.2.2.2.2) 3 (y114.1)
 else (M35 F).bind fun y116=>jn (fun(n119:Int) (n120:Int) (s121:List UInt8) (n122:Int) (n123:Int) (n124:Int)=>(M26 F n122 6 (Tpolicy_reader.mk a1.s n119 (Tpolicy_token.mk n120 s121 n122) n123 n124)).bind fun y155=>k96 n119 n120 s121 n122 (y155.1) (y155.2) 0 ([]:List (List UInt8))) (fun k118=>if (6:Int)<=9223372036854775807 then M113_L1 F a1 y85 y116 k118 ((6:Int).toNat) 0 (y111.2.1) (y111.2.2.1) (y111.2.2.2.1) (y111.2.2.2.2.1) (y111.2.2.2.2.2.1) (y111.2.2.2.2.2.2) else none)))
def M83(R84:Int->Tpolicy_reader->Option (Int×Int×(List UInt8)×Int×Int×Int×Int×(List UInt8)×(List (List UInt8))×Int×Int×(List KRow)))(F:Nat)(a1:Int)(a2:Tpolicy_reader):Option (Int×Int×(List UInt8)×Int×Int×Int×Int×(List UInt8)×(List (List UInt8))×Int×Int×(List KRow)):=
 (R84 a1 a2).bind fun y17=>some ((y17.1),(y17.2.1),(y17.2.2.1),(y17.2.2.2.1),(y17.2.2.2.2.1),(y17.2.2.2.2.2.1),(y17.2.2.2.2.2.2.1),(y17.2.2.2.2.2.2.2.1),(y17.2.2.2.2.2.2.2.2.1),(y17.2.2.2.2.2.2.2.2.2.1),(y17.2.2.2.2.2.2.2.2.2.2.1),(y17.2.2.2.2.2.2.2.2.2.2.2))
def M81_1_L1(R84:Int->Tpolicy_reader->Option (Int×Int×(List UInt8)×Int×Int×Int×Int×(List UInt8)×(List (List UInt8))×Int×Int×(List KRow)))(F:Nat)(a2:(List UInt8))(a3:Tpolicy_reader)(a4:Int)(k55:Int->Int->(List UInt8)->Int->Int->Int->(List KRow)->Option (Int×Int×(List UInt8)×Int×Int×Int×Int×(List UInt8)×(List (List UInt8))×Int×Int×(List KRow))):Nat->Int->Int->(List UInt8)->Int->Int->Int->(List KRow)->Option (Int×Int×(List UInt8)×Int×Int×Int×Int×(List UInt8)×(List (List UInt8))×Int×Int×(List KRow))
 |0,_,_,_,_,_,_,_=>none
 |n+1,n70,n71,s72,n73,n74,n75,l76=>(M23 F 1 a2 (Tpolicy_reader.mk a3.s n70 (Tpolicy_token.mk n71 s72 n73) n74 n75)).bind fun y77=>if (y77.1)=true then (M83 R84 F a4 (Tpolicy_reader.mk a3.s (y77.2.1) (Tpolicy_token.mk (y77.2.2.1) (y77.2.2.2.1) (y77.2.2.2.2.1)) (y77.2.2.2.2.2.1) (y77.2.2.2.2.2.2))).bind fun y80=>if (l76++([rowK encTTest (TTest.mk (y80.2.2.2.2.2.2.1) (y80.2.2.2.2.2.2.2.1) (y80.2.2.2.2.2.2.2.2.1) (y80.2.2.2.2.2.2.2.2.2.1) (y80.2.2.2.2.2.2.2.2.2.2.1) (y80.2.2.2.2.2.2.2.2.2.2.2))]:List KRow)).length*88<=140737488355328 then M81_1_L1 R84 F a2 a3 a4 k55 n (y80.1) (y80.2.1) (y80.2.2.1) (y80.2.2.2.1) (y80.2.2.2.2.1) (y80.2.2.2.2.2.1) (l76++([rowK encTTest (TTest.mk (y80.2.2.2.2.2.2.1) (y80.2.2.2.2.2.2.2.1) (y80.2.2.2.2.2.2.2.2.1) (y80.2.2.2.2.2.2.2.2.2.1) (y80.2.2.2.2.2.2.2.2.2.2.1) (y80.2.2.2.2.2.2.2.2.2.2.2))]:List KRow)) else none
 else k55 (y77.2.1) (y77.2.2.1) (y77.2.2.2.1) (y77.2.2.2.2.1) (y77.2.2.2.2.2.1) (y77.2.2.2.2.2.2) l76
def M81_1(R84:Int->Tpolicy_reader->Option (Int×Int×(List UInt8)×Int×Int×Int×Int×(List UInt8)×(List (List UInt8))×Int×Int×(List KRow)))(F:Nat)(a1:Int)(a2:(List UInt8))(a3:Tpolicy_reader)(a4:Int):Option (Int×Int×(List UInt8)×Int×Int×Int×Int×(List UInt8)×(List (List UInt8))×Int×Int×(List KRow)):=
 (M83 R84 F a4 a3).bind fun y50=>if ((y50.2.2.2.2.2.1) != 0)=true then some ((y50.1),(y50.2.1),(y50.2.2.1),(y50.2.2.2.1),(y50.2.2.2.2.1),(y50.2.2.2.2.2.1),(y50.2.2.2.2.2.2.1),(y50.2.2.2.2.2.2.2.1),(y50.2.2.2.2.2.2.2.2.1),(y50.2.2.2.2.2.2.2.2.2.1),(y50.2.2.2.2.2.2.2.2.2.2.1),(y50.2.2.2.2.2.2.2.2.2.2.2))
 else if ((y50.2.1) != 1)=true then some ((y50.1),(y50.2.1),(y50.2.2.1),(y50.2.2.2.1),(y50.2.2.2.2.1),(y50.2.2.2.2.2.1),(y50.2.2.2.2.2.2.1),(y50.2.2.2.2.2.2.2.1),(y50.2.2.2.2.2.2.2.2.1),(y50.2.2.2.2.2.2.2.2.2.1),(y50.2.2.2.2.2.2.2.2.2.2.1),(y50.2.2.2.2.2.2.2.2.2.2.2))
 else if (!((y50.2.2.1)==a2))=true then some ((y50.1),(y50.2.1),(y50.2.2.1),(y50.2.2.2.1),(y50.2.2.2.2.1),(y50.2.2.2.2.2.1),(y50.2.2.2.2.2.2.1),(y50.2.2.2.2.2.2.2.1),(y50.2.2.2.2.2.2.2.2.1),(y50.2.2.2.2.2.2.2.2.2.1),(y50.2.2.2.2.2.2.2.2.2.2.1),(y50.2.2.2.2.2.2.2.2.2.2.2))
 else jn (fun(n56:Int) (n57:Int) (s58:List UInt8) (n59:Int) (n60:Int) (n61:Int) (l62:List KRow)=>some (n56,n57,s58,n59,n60,n61,a1,([]:List UInt8),([]:List (List UInt8)),0,0,l62)) (fun k55=>M81_1_L1 R84 F a2 a3 a4 k55 F (y50.1) (y50.2.1) (y50.2.2.1) (y50.2.2.2.1) (y50.2.2.2.2.1) (y50.2.2.2.2.2.1) ([rowK encTTest (TTest.mk (y50.2.2.2.2.2.2.1) (y50.2.2.2.2.2.2.2.1) (y50.2.2.2.2.2.2.2.2.1) (y50.2.2.2.2.2.2.2.2.2.1) (y50.2.2.2.2.2.2.2.2.2.2.1) (y50.2.2.2.2.2.2.2.2.2.2.2))]:List KRow))
def M82(R84:Int->Tpolicy_reader->Option (Int×Int×(List UInt8)×Int×Int×Int×Int×(List UInt8)×(List (List UInt8))×Int×Int×(List KRow)))(F:Nat)(a1:Int)(a2:Tpolicy_reader):Option (Int×Int×(List UInt8)×Int×Int×Int×Int×(List UInt8)×(List (List UInt8))×Int×Int×(List KRow)):=
 (M81_1 R84 F 7 ([97,110,100]:List UInt8) a2 a1).bind fun y17=>some ((y17.1),(y17.2.1),(y17.2.2.1),(y17.2.2.2.1),(y17.2.2.2.2.1),(y17.2.2.2.2.2.1),(y17.2.2.2.2.2.2.1),(y17.2.2.2.2.2.2.2.1),(y17.2.2.2.2.2.2.2.2.1),(y17.2.2.2.2.2.2.2.2.2.1),(y17.2.2.2.2.2.2.2.2.2.2.1),(y17.2.2.2.2.2.2.2.2.2.2.2))
def M81_L1(R84:Int->Tpolicy_reader->Option (Int×Int×(List UInt8)×Int×Int×Int×Int×(List UInt8)×(List (List UInt8))×Int×Int×(List KRow)))(F:Nat)(a2:(List UInt8))(a3:Tpolicy_reader)(a4:Int)(k55:Int->Int->(List UInt8)->Int->Int->Int->(List KRow)->Option (Int×Int×(List UInt8)×Int×Int×Int×Int×(List UInt8)×(List (List UInt8))×Int×Int×(List KRow))):Nat->Int->Int->(List UInt8)->Int->Int->Int->(List KRow)->Option (Int×Int×(List UInt8)×Int×Int×Int×Int×(List UInt8)×(List (List UInt8))×Int×Int×(List KRow))
 |0,_,_,_,_,_,_,_=>none
 |n+1,n70,n71,s72,n73,n74,n75,l76=>(M23 F 1 a2 (Tpolicy_reader.mk a3.s n70 (Tpolicy_token.mk n71 s72 n73) n74 n75)).bind fun y77=>if (y77.1)=true then (M82 R84 F a4 (Tpolicy_reader.mk a3.s (y77.2.1) (Tpolicy_token.mk (y77.2.2.1) (y77.2.2.2.1) (y77.2.2.2.2.1)) (y77.2.2.2.2.2.1) (y77.2.2.2.2.2.2))).bind fun y80=>if (l76++([rowK encTTest (TTest.mk (y80.2.2.2.2.2.2.1) (y80.2.2.2.2.2.2.2.1) (y80.2.2.2.2.2.2.2.2.1) (y80.2.2.2.2.2.2.2.2.2.1) (y80.2.2.2.2.2.2.2.2.2.2.1) (y80.2.2.2.2.2.2.2.2.2.2.2))]:List KRow)).length*88<=140737488355328 then M81_L1 R84 F a2 a3 a4 k55 n (y80.1) (y80.2.1) (y80.2.2.1) (y80.2.2.2.1) (y80.2.2.2.2.1) (y80.2.2.2.2.2.1) (l76++([rowK encTTest (TTest.mk (y80.2.2.2.2.2.2.1) (y80.2.2.2.2.2.2.2.1) (y80.2.2.2.2.2.2.2.2.1) (y80.2.2.2.2.2.2.2.2.2.1) (y80.2.2.2.2.2.2.2.2.2.2.1) (y80.2.2.2.2.2.2.2.2.2.2.2))]:List KRow)) else none
 else k55 (y77.2.1) (y77.2.2.1) (y77.2.2.2.1) (y77.2.2.2.2.1) (y77.2.2.2.2.2.1) (y77.2.2.2.2.2.2) l76
def M81(R84:Int->Tpolicy_reader->Option (Int×Int×(List UInt8)×Int×Int×Int×Int×(List UInt8)×(List (List UInt8))×Int×Int×(List KRow)))(F:Nat)(a1:Int)(a2:(List UInt8))(a3:Tpolicy_reader)(a4:Int):Option (Int×Int×(List UInt8)×Int×Int×Int×Int×(List UInt8)×(List (List UInt8))×Int×Int×(List KRow)):=
 (M82 R84 F a4 a3).bind fun y50=>if ((y50.2.2.2.2.2.1) != 0)=true then some ((y50.1),(y50.2.1),(y50.2.2.1),(y50.2.2.2.1),(y50.2.2.2.2.1),(y50.2.2.2.2.2.1),(y50.2.2.2.2.2.2.1),(y50.2.2.2.2.2.2.2.1),(y50.2.2.2.2.2.2.2.2.1),(y50.2.2.2.2.2.2.2.2.2.1),(y50.2.2.2.2.2.2.2.2.2.2.1),(y50.2.2.2.2.2.2.2.2.2.2.2))
 else if ((y50.2.1) != 1)=true then some ((y50.1),(y50.2.1),(y50.2.2.1),(y50.2.2.2.1),(y50.2.2.2.2.1),(y50.2.2.2.2.2.1),(y50.2.2.2.2.2.2.1),(y50.2.2.2.2.2.2.2.1),(y50.2.2.2.2.2.2.2.2.1),(y50.2.2.2.2.2.2.2.2.2.1),(y50.2.2.2.2.2.2.2.2.2.2.1),(y50.2.2.2.2.2.2.2.2.2.2.2))
 else if (!((y50.2.2.1)==a2))=true then some ((y50.1),(y50.2.1),(y50.2.2.1),(y50.2.2.2.1),(y50.2.2.2.2.1),(y50.2.2.2.2.2.1),(y50.2.2.2.2.2.2.1),(y50.2.2.2.2.2.2.2.1),(y50.2.2.2.2.2.2.2.2.1),(y50.2.2.2.2.2.2.2.2.2.1),(y50.2.2.2.2.2.2.2.2.2.2.1),(y50.2.2.2.2.2.2.2.2.2.2.2))
 else jn (fun(n56:Int) (n57:Int) (s58:List UInt8) (n59:Int) (n60:Int) (n61:Int) (l62:List KRow)=>some (n56,n57,s58,n59,n60,n61,a1,([]:List UInt8),([]:List (List UInt8)),0,0,l62)) (fun k55=>M81_L1 R84 F a2 a3 a4 k55 F (y50.1) (y50.2.1) (y50.2.2.1) (y50.2.2.2.1) (y50.2.2.2.2.1) (y50.2.2.2.2.2.1) ([rowK encTTest (TTest.mk (y50.2.2.2.2.2.2.1) (y50.2.2.2.2.2.2.2.1) (y50.2.2.2.2.2.2.2.2.1) (y50.2.2.2.2.2.2.2.2.2.1) (y50.2.2.2.2.2.2.2.2.2.2.1) (y50.2.2.2.2.2.2.2.2.2.2.2))]:List KRow))
def M55(R84:Int->Tpolicy_reader->Option (Int×Int×(List UInt8)×Int×Int×Int×Int×(List UInt8)×(List (List UInt8))×Int×Int×(List KRow)))(F:Nat)(a1:Int)(a2:Tpolicy_reader):Option (Int×Int×(List UInt8)×Int×Int×Int×Int×(List UInt8)×(List (List UInt8))×Int×Int×(List KRow)):=
 (M81 R84 F 8 ([111,114]:List UInt8) a2 a1).bind fun y17=>some ((y17.1),(y17.2.1),(y17.2.2.1),(y17.2.2.2.1),(y17.2.2.2.2.1),(y17.2.2.2.2.2.1),(y17.2.2.2.2.2.2.1),(y17.2.2.2.2.2.2.2.1),(y17.2.2.2.2.2.2.2.2.1),(y17.2.2.2.2.2.2.2.2.2.1),(y17.2.2.2.2.2.2.2.2.2.2.1),(y17.2.2.2.2.2.2.2.2.2.2.2))
def M84_B(R84:Int->Tpolicy_reader->Option (Int×Int×(List UInt8)×Int×Int×Int×Int×(List UInt8)×(List (List UInt8))×Int×Int×(List KRow)))(F:Nat)(a1:Int)(a2:Tpolicy_reader):Option (Int×Int×(List UInt8)×Int×Int×Int×Int×(List UInt8)×(List (List UInt8))×Int×Int×(List KRow)):=
 jn (fun(n51:Int) (n52:Int)=>if (n52 != 0)=true then some (a2.end_,a2.now.kind,a2.now.text,a2.now.at_,n51,n52,0,([]:List UInt8),([]:List (List UInt8)),0,0,([]:List KRow))
 else (M23 F 1 ([116,114,117,101]:List UInt8) (Tpolicy_reader.mk a2.s a2.end_ a2.now n51 n52)).bind fun y57=>if (y57.1)=true then some ((y57.2.1),(y57.2.2.1),(y57.2.2.2.1),(y57.2.2.2.2.1),(y57.2.2.2.2.2.1),(y57.2.2.2.2.2.2),1,([]:List UInt8),([]:List (List UInt8)),0,0,([]:List KRow))
 else (M23 F 1 ([104,97,115]:List UInt8) (Tpolicy_reader.mk a2.s (y57.2.1) (Tpolicy_token.mk (y57.2.2.1) (y57.2.2.2.1) (y57.2.2.2.2.1)) (y57.2.2.2.2.2.1) (y57.2.2.2.2.2.2))).bind fun y60=>if (y60.1)=true then (M52 F (Tpolicy_reader.mk a2.s (y60.2.1) (Tpolicy_token.mk (y60.2.2.1) (y60.2.2.2.1) (y60.2.2.2.2.1)) (y60.2.2.2.2.2.1) (y60.2.2.2.2.2.2))).bind fun y63=>some ((y63.2.1),(y63.2.2.1),(y63.2.2.2.1),(y63.2.2.2.2.1),(y63.2.2.2.2.2.1),(y63.2.2.2.2.2.2),4,(y63.1),([]:List (List UInt8)),0,0,([]:List KRow))
 else (M23 F 1 ([110,111,116]:List UInt8) (Tpolicy_reader.mk a2.s (y60.2.1) (Tpolicy_token.mk (y60.2.2.1) (y60.2.2.2.1) (y60.2.2.2.2.1)) (y60.2.2.2.2.2.1) (y60.2.2.2.2.2.2))).bind fun y65=>if (y65.1)=true then (R84 (w64 (a1+1)) (Tpolicy_reader.mk a2.s (y65.2.1) (Tpolicy_token.mk (y65.2.2.1) (y65.2.2.2.1) (y65.2.2.2.2.1)) (y65.2.2.2.2.2.1) (y65.2.2.2.2.2.2))).bind fun y68=>some ((y68.1),(y68.2.1),(y68.2.2.1),(y68.2.2.2.1),(y68.2.2.2.2.1),(y68.2.2.2.2.2.1),6,([]:List UInt8),([]:List (List UInt8)),0,0,([rowK encTTest (TTest.mk (y68.2.2.2.2.2.2.1) (y68.2.2.2.2.2.2.2.1) (y68.2.2.2.2.2.2.2.2.1) (y68.2.2.2.2.2.2.2.2.2.1) (y68.2.2.2.2.2.2.2.2.2.2.1) (y68.2.2.2.2.2.2.2.2.2.2.2))]:List KRow))
 else (M23 F 3 ([40]:List UInt8) (Tpolicy_reader.mk a2.s (y65.2.1) (Tpolicy_token.mk (y65.2.2.1) (y65.2.2.2.1) (y65.2.2.2.2.1)) (y65.2.2.2.2.2.1) (y65.2.2.2.2.2.2))).bind fun y70=>if (y70.1)=true then (M55 R84 F (w64 (a1+1)) (Tpolicy_reader.mk a2.s (y70.2.1) (Tpolicy_token.mk (y70.2.2.1) (y70.2.2.2.1) (y70.2.2.2.2.1)) (y70.2.2.2.2.2.1) (y70.2.2.2.2.2.2))).bind fun y73=>(M23 F 3 ([41]:List UInt8) (Tpolicy_reader.mk a2.s (y73.1) (Tpolicy_token.mk (y73.2.1) (y73.2.2.1) (y73.2.2.2.1)) (y73.2.2.2.2.1) (y73.2.2.2.2.2.1))).bind fun y75=>jn (fun(n78:Int) (n79:Int)=>some ((y75.2.1),(y75.2.2.1),(y75.2.2.2.1),(y75.2.2.2.2.1),n78,n79,(y73.2.2.2.2.2.2.1),(y73.2.2.2.2.2.2.2.1),(y73.2.2.2.2.2.2.2.2.1),(y73.2.2.2.2.2.2.2.2.2.1),(y73.2.2.2.2.2.2.2.2.2.2.1),(y73.2.2.2.2.2.2.2.2.2.2.2))) (fun k77=>if (!(y75.1))=true then (M26 F (y75.2.2.2.2.1) 6 (Tpolicy_reader.mk a2.s (y75.2.1) (Tpolicy_token.mk (y75.2.2.1) (y75.2.2.2.1) (y75.2.2.2.2.1)) (y75.2.2.2.2.2.1) (y75.2.2.2.2.2.2))).bind fun y81=>k77 (y81.1) (y81.2)
 else k77 (y75.2.2.2.2.2.1) (y75.2.2.2.2.2.2))
 else (M113 F (Tpolicy_reader.mk a2.s (y70.2.1) (Tpolicy_token.mk (y70.2.2.1) (y70.2.2.2.1) (y70.2.2.2.2.1)) (y70.2.2.2.2.2.1) (y70.2.2.2.2.2.2))).bind fun y83=>some ((y83.1),(y83.2.1),(y83.2.2.1),(y83.2.2.2.1),(y83.2.2.2.2.1),(y83.2.2.2.2.2.1),(y83.2.2.2.2.2.2.1),(y83.2.2.2.2.2.2.2.1),(y83.2.2.2.2.2.2.2.2.1),(y83.2.2.2.2.2.2.2.2.2.1),(y83.2.2.2.2.2.2.2.2.2.2),([]:List KRow))) (fun k50=>if (decide (a1>=60))=true then (M26 F a2.now.at_ 3 a2).bind fun y54=>k50 (y54.1) (y54.2)
 else k50 a2.at_ a2.bad)
def M84:Nat->Int->Tpolicy_reader->Option (Int×Int×(List UInt8)×Int×Int×Int×Int×(List UInt8)×(List (List UInt8))×Int×Int×(List KRow))
 |0,_,_=>none
 |F+1,a1,a2=>M84_B (M84 F) F a1 a2
def M24(F:Nat)(a1:Tpolicy_reader):Option (Int×Int×(List UInt8)×Int×Int×Int×(List UInt8)×(List UInt8)×Int×(List UInt8)×(List (List UInt8))×Int×Int×(List KRow)×Int):=
 (M52 F a1).bind fun y29=>(M53 F ([97,98,111,117,116]:List UInt8) (Tpolicy_reader.mk a1.s (y29.2.1) (Tpolicy_token.mk (y29.2.2.1) (y29.2.2.2.1) (y29.2.2.2.2.1)) (y29.2.2.2.2.2.1) (y29.2.2.2.2.2.2))).bind fun y31=>(M52 F (Tpolicy_reader.mk a1.s (y31.1) (Tpolicy_token.mk (y31.2.1) (y31.2.2.1) (y31.2.2.2.1)) (y31.2.2.2.2.1) (y31.2.2.2.2.2))).bind fun y33=>(M54 F (Tpolicy_reader.mk a1.s (y33.2.1) (Tpolicy_token.mk (y33.2.2.1) (y33.2.2.2.1) (y33.2.2.2.2.1)) (y33.2.2.2.2.2.1) (y33.2.2.2.2.2.2))).bind fun y35=>(M53 F ([119,104,101,110]:List UInt8) (Tpolicy_reader.mk a1.s (y35.2.1) (Tpolicy_token.mk (y35.2.2.1) (y35.2.2.2.1) (y35.2.2.2.2.1)) (y35.2.2.2.2.2.1) (y35.2.2.2.2.2.2))).bind fun y37=>(M55 (M84 F) F 0 (Tpolicy_reader.mk a1.s (y37.1) (Tpolicy_token.mk (y37.2.1) (y37.2.2.1) (y37.2.2.2.1)) (y37.2.2.2.2.1) (y37.2.2.2.2.2))).bind fun y39=>some ((y39.1),(y39.2.1),(y39.2.2.1),(y39.2.2.2.1),(y39.2.2.2.2.1),(y39.2.2.2.2.2.1),(y29.1),(y33.1),(y39.2.2.2.2.2.2.1),(y39.2.2.2.2.2.2.2.1),(y39.2.2.2.2.2.2.2.2.1),(y39.2.2.2.2.2.2.2.2.2.1),(y39.2.2.2.2.2.2.2.2.2.2.1),(y39.2.2.2.2.2.2.2.2.2.2.2),(y35.1))
def M25(F:Nat)(a1:Tpolicy_reader):Option (Int×Int×(List UInt8)×Int×Int×Int×(List UInt8)×(List UInt8)×Int×Int×(List UInt8)×Int):=
 (M52 F a1).bind fun y36=>(M53 F ([102,111,114]:List UInt8) (Tpolicy_reader.mk a1.s (y36.2.1) (Tpolicy_token.mk (y36.2.2.1) (y36.2.2.2.1) (y36.2.2.2.2.1)) (y36.2.2.2.2.2.1) (y36.2.2.2.2.2.2))).bind fun y38=>(M56 F (Tpolicy_reader.mk a1.s (y38.1) (Tpolicy_token.mk (y38.2.1) (y38.2.2.1) (y38.2.2.2.1)) (y38.2.2.2.2.1) (y38.2.2.2.2.2))).bind fun y40=>(M53 F ([102,114,111,109]:List UInt8) (Tpolicy_reader.mk a1.s (y40.2.1) (Tpolicy_token.mk (y40.2.2.1) (y40.2.2.2.1) (y40.2.2.2.2.1)) (y40.2.2.2.2.2.1) (y40.2.2.2.2.2.2))).bind fun y42=>(M57 F false (Tpolicy_reader.mk a1.s (y42.1) (Tpolicy_token.mk (y42.2.1) (y42.2.2.1) (y42.2.2.2.1)) (y42.2.2.2.2.1) (y42.2.2.2.2.2))).bind fun y44=>(M53 F ([116,111]:List UInt8) (Tpolicy_reader.mk a1.s (y44.2.1) (Tpolicy_token.mk (y44.2.2.1) (y44.2.2.2.1) (y44.2.2.2.2.1)) (y44.2.2.2.2.2.1) (y44.2.2.2.2.2.2))).bind fun y46=>(M57 F false (Tpolicy_reader.mk a1.s (y46.1) (Tpolicy_token.mk (y46.2.1) (y46.2.2.1) (y46.2.2.2.1)) (y46.2.2.2.2.1) (y46.2.2.2.2.2))).bind fun y48=>(M53 F ([98,121]:List UInt8) (Tpolicy_reader.mk a1.s (y48.2.1) (Tpolicy_token.mk (y48.2.2.1) (y48.2.2.2.1) (y48.2.2.2.2.1)) (y48.2.2.2.2.2.1) (y48.2.2.2.2.2.2))).bind fun y50=>(M52 F (Tpolicy_reader.mk a1.s (y50.1) (Tpolicy_token.mk (y50.2.1) (y50.2.2.1) (y50.2.2.2.1)) (y50.2.2.2.2.1) (y50.2.2.2.2.2))).bind fun y52=>(M53 F ([97,115]:List UInt8) (Tpolicy_reader.mk a1.s (y52.2.1) (Tpolicy_token.mk (y52.2.2.1) (y52.2.2.2.1) (y52.2.2.2.2.1)) (y52.2.2.2.2.2.1) (y52.2.2.2.2.2.2))).bind fun y54=>(M54 F (Tpolicy_reader.mk a1.s (y54.1) (Tpolicy_token.mk (y54.2.1) (y54.2.2.1) (y54.2.2.2.1)) (y54.2.2.2.2.1) (y54.2.2.2.2.2))).bind fun y56=>some ((y56.2.1),(y56.2.2.1),(y56.2.2.2.1),(y56.2.2.2.2.1),(y56.2.2.2.2.2.1),(y56.2.2.2.2.2.2),(y36.1),(y40.1),(y44.1),(y48.1),(y52.1),(y56.1))
def M7_L2(F:Nat)(a1:(List UInt8))(k33:Int->Int->(List UInt8)->Int->Int->Int->(List TWaiver)->Option (TPolicy×Int×Int)):Nat->Int->Int->(List UInt8)->Int->Int->Int->(List TWaiver)->Option (TPolicy×Int×Int)
 |0,_,_,_,_,_,_,_=>none
 |n+1,n48,n49,s50,n51,n52,n53,l54=>(M23 F 1 ([119,97,105,118,101]:List UInt8) (Tpolicy_reader.mk a1 n48 (Tpolicy_token.mk n49 s50 n51) n52 n53)).bind fun y55=>if (y55.1)=true then (M25 F (Tpolicy_reader.mk a1 (y55.2.1) (Tpolicy_token.mk (y55.2.2.1) (y55.2.2.2.1) (y55.2.2.2.2.1)) (y55.2.2.2.2.2.1) (y55.2.2.2.2.2.2))).bind fun y58=>if (l54++([(TWaiver.mk (y58.2.2.2.2.2.2.1) (y58.2.2.2.2.2.2.2.1) (y58.2.2.2.2.2.2.2.2.1) (y58.2.2.2.2.2.2.2.2.2.1) (y58.2.2.2.2.2.2.2.2.2.2.1) (y58.2.2.2.2.2.2.2.2.2.2.2))]:List TWaiver)).length*72<=140737488355328 then M7_L2 F a1 k33 n (y58.1) (y58.2.1) (y58.2.2.1) (y58.2.2.2.1) (y58.2.2.2.2.1) (y58.2.2.2.2.2.1) (l54++([(TWaiver.mk (y58.2.2.2.2.2.2.1) (y58.2.2.2.2.2.2.2.1) (y58.2.2.2.2.2.2.2.2.1) (y58.2.2.2.2.2.2.2.2.2.1) (y58.2.2.2.2.2.2.2.2.2.2.1) (y58.2.2.2.2.2.2.2.2.2.2.2))]:List TWaiver)) else none
 else k33 (y55.2.1) (y55.2.2.1) (y55.2.2.2.1) (y55.2.2.2.2.1) (y55.2.2.2.2.2.1) (y55.2.2.2.2.2.2) l54
def M7_L1(F:Nat)(a1:(List UInt8))(k5:Int->Int->(List UInt8)->Int->Int->Int->(List TPolicyRule)->Option (TPolicy×Int×Int)):Nat->Int->Int->(List UInt8)->Int->Int->Int->(List TPolicyRule)->Option (TPolicy×Int×Int)
 |0,_,_,_,_,_,_,_=>none
 |n+1,n20,n21,s22,n23,n24,n25,l26=>(M23 F 1 ([114,117,108,101]:List UInt8) (Tpolicy_reader.mk a1 n20 (Tpolicy_token.mk n21 s22 n23) n24 n25)).bind fun y27=>if (y27.1)=true then (M24 F (Tpolicy_reader.mk a1 (y27.2.1) (Tpolicy_token.mk (y27.2.2.1) (y27.2.2.2.1) (y27.2.2.2.2.1)) (y27.2.2.2.2.2.1) (y27.2.2.2.2.2.2))).bind fun y30=>if (l26++([(TPolicyRule.mk (y30.2.2.2.2.2.2.1) (y30.2.2.2.2.2.2.2.1) (TTest.mk (y30.2.2.2.2.2.2.2.2.1) (y30.2.2.2.2.2.2.2.2.2.1) (y30.2.2.2.2.2.2.2.2.2.2.1) (y30.2.2.2.2.2.2.2.2.2.2.2.1) (y30.2.2.2.2.2.2.2.2.2.2.2.2.1) (y30.2.2.2.2.2.2.2.2.2.2.2.2.2.1)) (y30.2.2.2.2.2.2.2.2.2.2.2.2.2.2))]:List TPolicyRule)).length*128<=140737488355328 then M7_L1 F a1 k5 n (y30.1) (y30.2.1) (y30.2.2.1) (y30.2.2.2.1) (y30.2.2.2.2.1) (y30.2.2.2.2.2.1) (l26++([(TPolicyRule.mk (y30.2.2.2.2.2.2.1) (y30.2.2.2.2.2.2.2.1) (TTest.mk (y30.2.2.2.2.2.2.2.2.1) (y30.2.2.2.2.2.2.2.2.2.1) (y30.2.2.2.2.2.2.2.2.2.2.1) (y30.2.2.2.2.2.2.2.2.2.2.2.1) (y30.2.2.2.2.2.2.2.2.2.2.2.2.1) (y30.2.2.2.2.2.2.2.2.2.2.2.2.2.1)) (y30.2.2.2.2.2.2.2.2.2.2.2.2.2.2))]:List TPolicyRule)) else none
 else k5 (y27.2.1) (y27.2.2.1) (y27.2.2.2.1) (y27.2.2.2.2.1) (y27.2.2.2.2.2.1) (y27.2.2.2.2.2.2) l26
def M7(F:Nat)(a1:(List UInt8)):Option (TPolicy×Int×Int):=
 if (decide ((a1.length:Int)>200000))=true then some ((TPolicy.mk ([]:List TPolicyRule) ([]:List TWaiver)),0,3)
 else (M22 F (Tpolicy_reader.mk a1 0 (Tpolicy_token.mk 0 ([]:List UInt8) 0) 0 0)).bind fun y3=>jn (fun(n6:Int) (n7:Int) (s8:List UInt8) (n9:Int) (n10:Int) (n11:Int) (l12:List TPolicyRule)=>jn (fun(n34:Int) (n35:Int) (s36:List UInt8) (n37:Int) (n38:Int) (n39:Int) (l40:List TWaiver)=>jn (fun(n62:Int) (n63:Int)=>if (n63 != 0)=true then some ((TPolicy.mk ([]:List TPolicyRule) ([]:List TWaiver)),n62,n63)
 else (M9 F (TPolicy.mk l12 l40)).bind fun y68=>if (y68 != 0)=true then some ((TPolicy.mk ([]:List TPolicyRule) ([]:List TWaiver)),0,y68)
 else some ((TPolicy.mk l12 l40),0,0)) (fun k61=>if (n35 != 0)=true then (M26 F n37 6 (Tpolicy_reader.mk a1 n34 (Tpolicy_token.mk n35 s36 n37) n38 n39)).bind fun y65=>k61 (y65.1) (y65.2)
 else k61 n38 n39)) (fun k33=>M7_L2 F a1 k33 F n6 n7 s8 n9 n10 n11 ([]:List TWaiver))) (fun k5=>M7_L1 F a1 k5 F (y3.1) (y3.2.1) (y3.2.2.1) (y3.2.2.2.1) (y3.2.2.2.2.1) (y3.2.2.2.2.2) ([]:List TPolicyRule))
def M87_L1(F:Nat)(a2:(List (List UInt8)))(k4:Option Bool):List (List UInt8)->Int->Option Bool
  |[],n6=>k4
  |x8::tl1,n6=>(idx a2 n6).bind fun x10=>if (!(x8==x10))=true then some false
 else M87_L1 F a2 k4 tl1 (n6+1)
def M87(F:Nat)(a1:(List (List UInt8)))(a2:(List (List UInt8))):Option Bool:=
 if (((a1.length:Nat):Int) != ((a2.length:Nat):Int))=true then some false
 else jn (some true) (fun k4=>M87_L1 F a2 k4 a1 0)
def M88_L1(R58:TTest->TTest->Option Bool)(F:Nat)(a2:(List KRow))(k4:Option Bool):List KRow->Int->Option Bool
  |[],n6=>k4
  |x8::tl1,n6=>(kdec encTTest x8).bind fun y10=>(idx a2 n6).bind fun x12=>(kdec encTTest x12).bind fun y14=>(R58 y10 y14).bind fun y16=>if (!y16)=true then some false
 else M88_L1 R58 F a2 k4 tl1 (n6+1)
def M88(R58:TTest->TTest->Option Bool)(F:Nat)(a1:(List KRow))(a2:(List KRow)):Option Bool:=
 if (((a1.length:Nat):Int) != ((a2.length:Nat):Int))=true then some false
 else jn (some true) (fun k4=>M88_L1 R58 F a2 k4 a1 0)
def M58_B(R58:TTest->TTest->Option Bool)(F:Nat)(a1:TTest)(a2:TTest):Option Bool:=
 if (a1.Kind==a2.Kind)=true then if (a1.Name==a2.Name)=true then (M87 F a1.Texts a2.Texts).bind fun y5=>if y5=true then if (a1.Op==a2.Op)=true then if (a1.N==a2.N)=true then (M88 R58 F a1.Kids a2.Kids).bind fun y10=>some y10
 else some false
 else some false
 else some false
 else some false
 else some false
def M58:Nat->TTest->TTest->Option Bool
 |0,_,_=>none
 |F+1,a1,a2=>M58_B (M58 F) F a1 a2
def M28(F:Nat)(a1:TPolicyRule)(a2:TPolicyRule):Option Bool:=
 if (a1.Name==a2.Name)=true then if (a1.About==a2.About)=true then if (a1.Level==a2.Level)=true then (M58 F a1.When a2.When).bind fun y6=>some y6
 else some false
 else some false
 else some false
def M27_L1(F:Nat)(a2:(List TPolicyRule))(k4:Option Bool):List TPolicyRule->Int->Option Bool
  |[],n6=>k4
  |x8::tl1,n6=>(idx a2 n6).bind fun x10=>(M28 F x8 x10).bind fun y12=>if (!y12)=true then some false
 else M27_L1 F a2 k4 tl1 (n6+1)
def M27(F:Nat)(a1:(List TPolicyRule))(a2:(List TPolicyRule)):Option Bool:=
 if (((a1.length:Nat):Int) != ((a2.length:Nat):Int))=true then some false
 else jn (some true) (fun k4=>M27_L1 F a2 k4 a1 0)
def M29_L1(F:Nat)(a2:(List TWaiver))(k4:Option Bool):List TWaiver->Int->Option Bool
  |[],n6=>k4
  |x8::tl1,n6=>(idx a2 n6).bind fun x10=>if (!(decide (x8=x10)))=true then some false
 else M29_L1 F a2 k4 tl1 (n6+1)
def M29(F:Nat)(a1:(List TWaiver))(a2:(List TWaiver)):Option Bool:=
 if (((a1.length:Nat):Int) != ((a2.length:Nat):Int))=true then some false
 else jn (some true) (fun k4=>M29_L1 F a2 k4 a1 0)
def M8(F:Nat)(a1:TPolicy)(a2:TPolicy):Option Bool:=
 (M27 F a1.Rules a2.Rules).bind fun y3=>if y3=true then (M29 F a1.Waivers a2.Waivers).bind fun y6=>some y6
 else some false
def M3(F:Nat)(a1:TPolicy):Option Bool:=
 (M4 F a1).bind fun y2=>(M5 F a1).bind fun y4=>if (!((y2.1)==(y4.1)))=true then some false
 else if ((y2.2) != (y4.2))=true then some false
 else if ((y2.2) != 0)=true then (M6 F).bind fun y9=>some y9
 else (M7 F (y2.1)).bind fun y11=>(M8 F a1 (y11.1)).bind fun y13=>if y13=true then if ((y11.2.1)==0)=true then if ((y11.2.2)==0)=true then (M6 F).bind fun y18=>some y18
 else some false
 else some false
 else some false
end
end Go.Proofs.YtppfkkkifdbnaaaGreatDoor
