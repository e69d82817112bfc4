/- Part of the proof: C9M. -/
import Derived.Test.YtelmfadihfcgnaaGreatDoorXC9T
set_option linter.unusedSimpArgs false
set_option linter.unusedVariables false
namespace Go.Proofs.YtelmfadihfcgnaaGreatDoor
open Go Go.Pv
set_option maxRecDepth 100000
noncomputable section
abbrev YA:=List (B8×(List q0a))
abbrev YB:=List (q0a×Bool)
abbrev YC:=B8×(Option q4a)
abbrev YE:=List q2a
abbrev YG:=List B8
abbrev YH:=Bool×(List (B8×q0a))×(List (B8×Bool))
abbrev YI:=List q0a
theorem Y{α:Sort _}{a:α}:a=a:=rfl
def z4v(R86:q0c->Int->Option (Int×Int))(F:Nat)(a2:Int)(k4:Int->Int->Option (Int×Int)):List q6e->Int->Int->Option (Int×Int)
 |[],n10,n11=>k4 n10 n11
 |x14::tl1,n10,n11=>(q1z q7a x14).bind fun y16=>(R86 y16 (w64 (a2+1))).bind fun y18=>z4v R86 F a2 k4 tl1 (if 61<(w64 (n10+(y18.1))) then 61 else (w64 (n10+(y18.1)))) (if (y18.2)>n11 then (y18.2) else n11)
def w2f(R86:q0c->Int->Option (Int×Int))(F:Nat)(a1:q0c)(a2:Int):Option (Int×Int):=
 if (decide (a2>12))=true then some (1,a2)
 else jn (fun(n5:Int) (n6:Int)=>some (n5,n6)) (fun k4=>z4v R86 F a2 k4 a1.Kids 1 a2)
def M86:Nat->q0c->Int->Option (Int×Int)
 |0,_,_=>none
 |F+1,a1,a2=>w2f (M86 F) F a1 a2
def y0k(F:Nat):Option (Nat->q2g):=
 some (v2g (q2g.mk false false false 0) [(q2g.mk false false false 0),(q2g.mk false false false 0),(q2g.mk true true false 0),(q2g.mk true true false 0),(q2g.mk true false false 0),(q2g.mk true false true 0),(q2g.mk false false false 1),(q2g.mk false false false (-1)),(q2g.mk false false false (-1))])
def y5x(F:Nat)(a1:q0c):Option Bool:=
 (y0k F).bind fun y2=>if 0<=a1.Kind/\a1.Kind.toNat<9 then if (!(y2 a1.Kind.toNat).name)=true then if (!(a1.Name==([]:B8)))=true then some false
 else if (!(y2 a1.Kind.toNat).texts)=true then if (decide (((a1.Texts.length:Nat):Int)>0))=true then some false
 else if (!(y2 a1.Kind.toNat).number)=true then if (a1.Op != 0)=true then some false
 else if (a1.N != 0)=true then some false
 else if (decide ((y2 a1.Kind.toNat).kids<0))=true then some (decide (((a1.Kids.length:Nat):Int)>=2))
 else some (((a1.Kids.length:Nat):Int)==(y2 a1.Kind.toNat).kids)
 else if (decide ((y2 a1.Kind.toNat).kids<0))=true then some (decide (((a1.Kids.length:Nat):Int)>=2))
 else some (((a1.Kids.length:Nat):Int)==(y2 a1.Kind.toNat).kids)
 else if (!(y2 a1.Kind.toNat).number)=true then if (a1.Op != 0)=true then some false
 else if (a1.N != 0)=true then some false
 else if (decide ((y2 a1.Kind.toNat).kids<0))=true then some (decide (((a1.Kids.length:Nat):Int)>=2))
 else some (((a1.Kids.length:Nat):Int)==(y2 a1.Kind.toNat).kids)
 else if (decide ((y2 a1.Kind.toNat).kids<0))=true then some (decide (((a1.Kids.length:Nat):Int)>=2))
 else some (((a1.Kids.length:Nat):Int)==(y2 a1.Kind.toNat).kids)
 else if (!(y2 a1.Kind.toNat).texts)=true then if (decide (((a1.Texts.length:Nat):Int)>0))=true then some false
 else if (!(y2 a1.Kind.toNat).number)=true then if (a1.Op != 0)=true then some false
 else if (a1.N != 0)=true then some false
 else if (decide ((y2 a1.Kind.toNat).kids<0))=true then some (decide (((a1.Kids.length:Nat):Int)>=2))
 else some (((a1.Kids.length:Nat):Int)==(y2 a1.Kind.toNat).kids)
 else if (decide ((y2 a1.Kind.toNat).kids<0))=true then some (decide (((a1.Kids.length:Nat):Int)>=2))
 else some (((a1.Kids.length:Nat):Int)==(y2 a1.Kind.toNat).kids)
 else if (!(y2 a1.Kind.toNat).number)=true then if (a1.Op != 0)=true then some false
 else if (a1.N != 0)=true then some false
 else if (decide ((y2 a1.Kind.toNat).kids<0))=true then some (decide (((a1.Kids.length:Nat):Int)>=2))
 else some (((a1.Kids.length:Nat):Int)==(y2 a1.Kind.toNat).kids)
 else if (decide ((y2 a1.Kind.toNat).kids<0))=true then some (decide (((a1.Kids.length:Nat):Int)>=2))
 else some (((a1.Kids.length:Nat):Int)==(y2 a1.Kind.toNat).kids) else none
def M88(F:Nat)(a1:B8):Option Bool:=
 jn (fun(b3:Bool)=>if b3=true then some true
 else some false) (fun k2=>if (a1==([114,117,108,101]:B8))=true then k2 (a1==([114,117,108,101]:B8))
 else if (a1==([97,98,111,117,116]:B8))=true then k2 (a1==([97,98,111,117,116]:B8))
 else if (a1==([119,104,101,110]:B8))=true then k2 (a1==([119,104,101,110]:B8))
 else if (a1==([119,97,105,118,101]:B8))=true then k2 (a1==([119,97,105,118,101]:B8))
 else if (a1==([102,111,114]:B8))=true then k2 (a1==([102,111,114]:B8))
 else if (a1==([102,114,111,109]:B8))=true then k2 (a1==([102,114,111,109]:B8))
 else if (a1==([116,111]:B8))=true then k2 (a1==([116,111]:B8))
 else if (a1==([98,121]:B8))=true then k2 (a1==([98,121]:B8))
 else if (a1==([97,115]:B8))=true then k2 (a1==([97,115]:B8))
 else if (a1==([112,97,115,115]:B8))=true then k2 (a1==([112,97,115,115]:B8))
 else if (a1==([110,111,116,101]:B8))=true then k2 (a1==([110,111,116,101]:B8))
 else if (a1==([119,97,114,110]:B8))=true then k2 (a1==([119,97,114,110]:B8))
 else if (a1==([100,101,110,121]:B8))=true then k2 (a1==([100,101,110,121]:B8))
 else if (a1==([111,114]:B8))=true then k2 (a1==([111,114]:B8))
 else if (a1==([97,110,100]:B8))=true then k2 (a1==([97,110,100]:B8))
 else if (a1==([116,114,117,101]:B8))=true then k2 (a1==([116,114,117,101]:B8))
 else if (a1==([105,115]:B8))=true then k2 (a1==([105,115]:B8))
 else if (a1==([98,101,103,105,110,115]:B8))=true then k2 (a1==([98,101,103,105,110,115]:B8))
 else if (a1==([104,97,115]:B8))=true then k2 (a1==([104,97,115]:B8))
 else k2 (a1==([110,111,116]:B8)))
def z6q(F:Nat)(a1:B8)(k2:Option Bool):Nat->Int->Option Bool
  |0,n4=>k2
  |tl1+1,n4=>jn (z6q F a1 k2 tl1 (n4+1)) (fun k6=>(idx a1 n4).bind fun c7=>if (decide ((c7.toNat:Int)>=97))=true then if (decide ((c7.toNat:Int)<=122))=true then k6
 else if (decide (n4>0))=true then if (decide ((c7.toNat:Int)>=48))=true then if (decide ((c7.toNat:Int)<=57))=true then k6
 else if (!((c7.toNat:Int)==45))=true then some false
 else k6
 else if (!((c7.toNat:Int)==45))=true then some false
 else k6
 else some false
 else if (decide (n4>0))=true then if (decide ((c7.toNat:Int)>=48))=true then if (decide ((c7.toNat:Int)<=57))=true then k6
 else if (!((c7.toNat:Int)==45))=true then some false
 else k6
 else if (!((c7.toNat:Int)==45))=true then some false
 else k6
 else some false)
def M31(F:Nat)(a1:B8):Option Bool:=
 jn (if (!(a1==([]:B8)))=true then if (decide ((a1.length:Int)<=40))=true then (M88 F a1).bind fun y24=>some (!y24)
 else some false
 else some false) (fun k2=>if (a1.length:Int)<=9223372036854775807 then z6q F a1 k2 (((a1.length:Int):Int).toNat) 0 else none)
def z2m(F:Nat)(a1:B8)(k2:Option Bool):Nat->Int->Option Bool
  |0,n4=>k2
  |tl1+1,n4=>(idx a1 n4).bind fun c6=>if (decide ((c6.toNat:Int)<32))=true then some false
 else (idx a1 n4).bind fun c9=>if (decide ((c9.toNat:Int)>126))=true then some false
 else z2m F a1 k2 tl1 (n4+1)
def y8i(F:Nat)(a1:B8):Option Bool:=
 jn (some (decide ((a1.length:Int)<=1000))) (fun k2=>if (a1.length:Int)<=9223372036854775807 then z2m F a1 k2 (((a1.length:Int):Int).toNat) 0 else none)
def z9l(F:Nat)(a1:YG)(k4:Option Int):List B8->Int->Option Int
  |[],n6=>k4
  |x8::tl1,n6=>(y8i F x8).bind fun y10=>jn (z9l F a1 k4 tl1 (n6+1)) (fun k12=>if (!y10)=true then some 2
 else if (decide (n6>0))=true then (idx a1 (w64 (n6 - 1))).bind fun x15=>if (Op.bytesLess x8 x15||x8==x15)=true then some 10
 else k12
 else k12)
def y3x(F:Nat)(a1:YG):Option Int:=
 if (((a1.length:Nat):Int)==0)=true then some 13
 else if (decide (((a1.length:Nat):Int)>50))=true then some 3
 else jn (some 0) (fun k4=>z9l F a1 k4 a1 0)
def w3g(F:Nat)(a1:Int):Option Bool:=
 if (decide (a1>=(-1000000000000)))=true then some (decide (a1<=1000000000000))
 else some false
def z6f(R87:q0c->Option Int)(F:Nat)(k27:Option Int):List q6e->Option Int
  |[]=>k27
  |x31::tl1=>(q1z q7a x31).bind fun y33=>(R87 y33).bind fun y35=>if (y35 != 0)=true then some y35
 else z6f R87 F k27 tl1
def j4z(R87:q0c->Option Int)(F:Nat)(a1:q0c):Option Int:=
 if (decide (a1.Kind<1))=true then some 7
 else if (decide (a1.Kind>8))=true then some 7
 else (y0k F).bind fun y4=>if 0<=a1.Kind/\a1.Kind.toNat<9 then (y5x F a1).bind fun y7=>jn (jn (jn (jn (some 0) (fun k27=>z6f R87 F k27 a1.Kids)) (fun k20=>if (y4 a1.Kind.toNat).number=true then if (decide (a1.Op<1))=true then some 7
 else if (decide (a1.Op>5))=true then some 7
 else (w3g F a1.N).bind fun y24=>if (!y24)=true then some 9
 else k20
 else k20)) (fun k15=>if (y4 a1.Kind.toNat).texts=true then (y3x F a1.Texts).bind fun y17=>if (y17 != 0)=true then some y17
 else k15
 else k15)) (fun k9=>if (!y7)=true then some 2
 else if (y4 a1.Kind.toNat).name=true then (M31 F a1.Name).bind fun y12=>if (!y12)=true then some 8
 else k9
 else k9) else none
def M87:Nat->q0c->Option Int
 |0,_=>none
 |F+1,a1=>j4z (M87 F) F a1
def M30(F:Nat)(a1:q0c):Option Int:=
 (M86 F a1 1).bind fun y2=>if (decide ((y2.1)>60))=true then some 3
 else if (decide ((y2.2)>12))=true then some 3
 else (M87 F a1).bind fun y6=>some y6
def z1w(R32:q0c->Option KV)(F:Nat)(k2:(List KV)->Option KV):List q6e->(List KV)->Option KV
 |[],l7=>k2 l7
 |x9::tl1,l7=>(q1z q7a x9).bind fun y11=>(R32 y11).bind fun y13=>if (l7++([y13]:List KV)).length*16<=140737488355328 then z1w R32 F k2 tl1 (l7++([y13]:List KV)) else none
def w6f(R32:q0c->Option KV)(F:Nat)(a1:q0c):Option KV:=
 jn (fun(l3:List KV)=>if (a1.Kind==2)=true then some (mkK 147 q8f (q7k.mk a1.Name a1.Texts))
 else if (a1.Kind==3)=true then some (mkK 148 q0e (q2i.mk a1.Name a1.Texts))
 else if (a1.Kind==4)=true then some (mkK 150 q9f (q8j.mk a1.Name))
 else if (a1.Kind==5)=true then some (mkK 152 q9d (q1i.mk a1.Name a1.Op a1.N))
 else if (a1.Kind==6)=true then (idx l3 0).bind fun x22=>some (mkK 154 q7g (q7j.mk x22))
 else if (a1.Kind==7)=true then some (mkK 156 q1g (q0k.mk l3))
 else if (a1.Kind==8)=true then some (mkK 157 q0g (q9j.mk l3))
 else some (mkK 159 q8g q3j.mk)) (fun k2=>z1w R32 F k2 a1.Kids ([]:List KV))
def M32:Nat->q0c->Option KV
 |0,_=>none
 |F+1,a1=>w6f (M32 F) F a1
def M89(F:Nat)(a1:B8)(a2:List YC):Option (List YC×q4a):=match q7f a2 a1 with
 |none=>some (q0m a2 a1 (some (q4a.mk [] [] [] false false false 2)),(q4a.mk [] [] [] false false false 2))
 |some none=>none
 |some (some s)=>some (a2,s)
def q0z(R33:KV->(List YC)->Option (List YC))(F:Nat)(k93:(List YC)->Option (List YC)):List KV->(List YC)->Option (List YC)
 |[],m98=>k93 m98
 |x100::tl1,m98=>(R33 x100 m98).bind fun y102=>q0z R33 F k93 tl1 y102
def z6x(R33:KV->(List YC)->Option (List YC))(F:Nat)(a1:KV)(a2:List YC):Option (List YC):=
 if Nat.beq a1.t 147=true then (z4w q8f 147 a1).bind fun y63=>(M89 F y63.name a2).bind fun y65=>if ((y65.2).is++y63.texts).length*16<=140737488355328 then some (q0m (y65.1) y63.name (some (q4a.mk ((y65.2).is++y63.texts) (y65.2).begins (y65.2).numbers true (y65.2).asNo (y65.2).has (w64 ((y65.2).weight+((y63.texts.length:Nat):Int)))))) else none
 else if Nat.beq a1.t 148=true then (z4w q0e 148 a1).bind fun y69=>(M89 F y69.name a2).bind fun y71=>if ((y71.2).begins++y69.texts).length*16<=140737488355328 then some (q0m (y71.1) y69.name (some (q4a.mk (y71.2).is ((y71.2).begins++y69.texts) (y71.2).numbers true (y71.2).asNo (y71.2).has (w64 ((y71.2).weight+(w64 (2*((y69.texts.length:Nat):Int)))))))) else none
 else if Nat.beq a1.t 150=true then (z4w q9f 150 a1).bind fun y75=>(M89 F y75.name a2).bind fun y77=>some (q0m (y77.1) y75.name (some (q4a.mk (y77.2).is (y77.2).begins (y77.2).numbers (y77.2).asText (y77.2).asNo true (y77.2).weight)))
 else if Nat.beq a1.t 152=true then (z4w q9d 152 a1).bind fun y80=>(M89 F y80.name a2).bind fun y82=>if ((y82.2).numbers++([y80.n]:List Int)).length*8<=140737488355328 then some (q0m (y82.1) y80.name (some (q4a.mk (y82.2).is (y82.2).begins ((y82.2).numbers++([y80.n]:List Int)) (y82.2).asText true (y82.2).has (w64 ((y82.2).weight+2))))) else none
 else if Nat.beq a1.t 154=true then (z4w q7g 154 a1).bind fun y86=>(R33 y86.kid a2).bind fun y88=>some y88
 else if Nat.beq a1.t 156=true then (z4w q1g 156 a1).bind fun y91=>jn (fun(m94:List YC)=>some m94) (fun k93=>q0z R33 F k93 y91.kids a2)
 else if Nat.beq a1.t 157=true then (z4w q0g 157 a1).bind fun y106=>jn (fun(m109:List YC)=>some m109) (fun k108=>q0z R33 F k108 y106.kids a2)
 else some a2
def M33:Nat->KV->(List YC)->Option (List YC)
 |0,_,_=>none
 |F+1,a1,a2=>z6x (M33 F) F a1 a2
def q2w(F:Nat):List YC->Int->Option Bool
  |[],n4=>some true
  |e6::l7,n4=>if (1<=n4/\n4<=200000)/\((e6::l7).all fun p=>match p.2 with|some s=>decide (1<=s.weight/\s.weight<=1000000000000)|none=>false)=true then (e6.2).bind fun x9=>if x9.has=true then if (decide ((w64 (n4*(w64 (x9.weight+1))))>200000))=true then some false
 else q2w F l7 (w64 (n4*(w64 (x9.weight+1))))
 else if x9.asText=true then jn (fun(n15:Int)=>if (decide ((w64 (n4*n15))>200000))=true then some false
 else q2w F l7 (w64 (n4*n15))) (fun k14=>if x9.asNo=true then k14 (w64 (x9.weight+1))
 else k14 x9.weight)
 else if (decide ((w64 (n4*x9.weight))>200000))=true then some false
 else q2w F l7 (w64 (n4*x9.weight)) else none
def M34(F:Nat)(a1:(List YC)):Option Bool:=
 q2w F a1 1
def M59(F:Nat)(a1:List Int):Option (List Int):=if a1.length<4611686018427387904 then some (v5p a1) else none
def M186(F:Nat)(a1:List Int):Option (List Int):=if a1.length<=140737488355328 then some (cpt a1) else none
def q7u(F:Nat)(x11:Int)(k13:(List Int)->Option (List Int)):Nat->Int->(List Int)->Option (List Int)
  |0,n17,l18=>k13 l18
  |tl2+1,n17,l18=>(idx ([(w64 (x11 - 1)),x11,(w64 (x11+1))]:List Int) n17).bind fun x20=>(w3g F x20).bind fun y22=>jn (fun(l25:List Int)=>q7u F x11 k13 tl2 (n17+1) l25) (fun k24=>if y22=true then if (l18++([x20]:List Int)).length*8<=140737488355328 then k24 (l18++([x20]:List Int)) else none
 else k24 l18)
def z5b(F:Nat)(k2:(List Int)->Option (List Int)):List Int->(List Int)->Option (List Int)
 |[],l7=>k2 l7
 |x11::tl1,l7=>jn (fun(l10:List Int)=>z5b F k2 tl1 l10) (fun k9=>jn (fun(l14:List Int)=>k9 l14) (fun k13=>if ((3:Nat):Int)<=9223372036854775807 then q7u F x11 k13 ((((3:Nat):Int):Int).toNat) 0 l7 else none))
def w3x(F:Nat)(a1:q4a):Option (List Int):=
 jn (fun(l3:List Int)=>(M59 F l3).bind fun y30=>if y30.length=l3.length then (M186 F y30).bind fun y33=>some y33 else none) (fun k2=>z5b F k2 a1.numbers ([0]:List Int))
def M29(F:Nat)(a1:YG):Option YG:=
 y0p a1.length (fun b7=>if b7=true then some ([]:List B8)
 else if (([]:List B8)++a1).length*16<=140737488355328 then some (([]:List B8)++a1) else none)
def z1m(F:Nat)(a2:B8)(k3:Option Int):List B8->Int->Option Int
  |[],n5=>k3
  |x7::tl1,n5=>if (a2==x7)=true then some n5
 else z1m F a2 k3 tl1 (n5+1)
def M121(F:Nat)(a1:YG)(a2:B8):Option Int:=
 jn (some (-1)) (fun k3=>z1m F a2 k3 a1 0)
def M74(F:Nat)(a1:YG)(a2:B8):Option Bool:=
 (M121 F a1 a2).bind fun y3=>some (decide (y3>=0))
def M190(F:Nat)(a1:B8)(a2:B8):Option Bool:=
 if (decide ((a1.length:Int)>=(a2.length:Int)))=true then if 0<=(a2.length:Int)/\(a2.length:Int).toNat<=a1.length then some ((a1.take (a2.length:Int).toNat)==a2) else none
 else some false
def y9j(F:Nat)(a1:B8)(a2:B8):Option Bool:=
 (M190 F a1 a2).bind fun y3=>some y3
def y9z(F:Nat)(a1:B8)(a2:Int)(a3:B8):Option Bool:=
 if (decide ((a1.length:Int)>a2))=true then (y9j F a3 a1).bind fun y5=>some y5
 else some false
def z7l(F:Nat)(a2:Int)(a3:B8)(k4:Option Int):List B8->Int->Option Int
  |[],n6=>k4
  |x8::tl1,n6=>(y9z F x8 a2 a3).bind fun y10=>if y10=true then some n6
 else z7l F a2 a3 k4 tl1 (n6+1)
def y8z(F:Nat)(a1:YG)(a2:Int)(a3:B8):Option Int:=
 jn (some (-1)) (fun k4=>z7l F a2 a3 k4 a1 0)
def M237(F:Nat)(a1:YG)(a2:Int)(a3:B8):Option Bool:=
 (y8z F a1 a2 a3).bind fun y4=>some (decide (y4>=0))
def y7w(F:Nat)(a1:B8)(a2:YG)(a3:Int):Option Bool:=
 (M237 F a2 a3 a1).bind fun y4=>some y4
def z9f(F:Nat)(a1:B8)(a2:YG)(a3:YG)(x12:B8)(k18:YG->Option (B8×Bool)):Nat->Int->YG->Option (B8×Bool)
 |0,_,_=>none
 |n+1,n22,l23=>if (decide (n22<=126))=true then jn (fun(l26:List B8)=>z9f F a1 a2 a3 x12 k18 n (IntKind.wrap .u8 (n22+1)) l26) (fun k25=>if x12.length+(Utf8.encode (IntKind.wrap .i32 n22)).data.toList.length<=9223372036854775807 then (y7w F (x12++(Utf8.encode (IntKind.wrap .i32 n22)).data.toList) a2 (a1.length:Int)).bind fun y28=>if y28=true then k25 l23
 else (M74 F a3 (x12++(Utf8.encode (IntKind.wrap .i32 n22)).data.toList)).bind fun y31=>if (!y31)=true then some ((x12++(Utf8.encode (IntKind.wrap .i32 n22)).data.toList),true)
 else if (l23++([(x12++(Utf8.encode (IntKind.wrap .i32 n22)).data.toList)]:List B8)).length*16<=140737488355328 then k25 (l23++([(x12++(Utf8.encode (IntKind.wrap .i32 n22)).data.toList)]:List B8)) else none else none)
 else k18 l23
def z1b(F:Nat)(a1:B8)(a2:YG)(a3:YG)(k4:Option (B8×Bool)):Nat->Int->YG->Option (B8×Bool)
 |0,_,_=>none
 |n+1,n7,l8=>if (decide (n7<((l8.length:Nat):Int)))=true then jn (fun(l11:List B8)=>z1b F a1 a2 a3 k4 n (w64 (n7+1)) l11) (fun k10=>(idx l8 n7).bind fun x12=>(M74 F a3 x12).bind fun y14=>if (!y14)=true then some (x12,true)
 else if ((x12.length:Int)==1000)=true then k10 l8
 else jn (fun(l19:List B8)=>k10 l19) (fun k18=>z9f F a1 a2 a3 x12 k18 F 32 l8))
 else k4
def y9w(F:Nat)(a1:B8)(a2:YG)(a3:YG):Option (B8×Bool):=
 jn (some (([]:B8),false)) (fun k4=>z1b F a1 a2 a3 k4 F 0 ([a1]:List B8))
def y2k(F:Nat)(a1:List B8):Option YG:=if a1.length<4611686018427387904 then some (q1s a1) else none
def y7j(F:Nat)(a1:List B8):Option YG:=if a1.length<=140737488355328 then some (cpt a1) else none
def z4b(F:Nat)(a1:q4a)(k10:YG->Option YG):List B8->YG->Option YG
  |[],l15=>k10 l15
  |x17::tl1,l15=>(y9w F x17 a1.begins a1.is).bind fun y19=>jn (fun(l22:List B8)=>z4b F a1 k10 tl1 l22) (fun k21=>if (y19.2)=true then if (l15++([(y19.1)]:List B8)).length*16<=140737488355328 then k21 (l15++([(y19.1)]:List B8)) else none
 else k21 l15)
def v9s(F:Nat)(a1:q4a):Option YG:=
 (M29 F a1.is).bind fun y2=>(M74 F a1.begins ([]:B8)).bind fun y4=>jn (fun(l7:List B8)=>jn (fun(l11:List B8)=>(y2k F l11).bind fun y26=>if y26.length=l11.length then (y7j F y26).bind fun y29=>some y29 else none) (fun k10=>z4b F a1 k10 l7 y2)) (fun k6=>if (!y4)=true then if (([([]:B8)]:List B8)++a1.begins).length*16<=140737488355328 then k6 (([([]:B8)]:List B8)++a1.begins) else none
 else k6 a1.begins)
def z4f(R0:(YB×YA)->q0a->Option (YB×YA))(F:Nat)(x51:B8)(k53:YB->YA->Option (YB×YA)):List q0a->YB->YA->Option (YB×YA)
 |[],m60,m61=>k53 m60 m61
 |x63::tl4,m60,m61=>(R0 (m60,m61) (q0a.mk true x63.hasNumber x51 x63.number)).bind fun y65=>z4f R0 F x51 k53 tl4 (y65.1) (y65.2)
def q9s(R0:(YB×YA)->q0a->Option (YB×YA))(F:Nat)(l12:List q0a):List B8->YB->YA->Option (YB×YA)
 |[],m45,m46=>some (m45,m46)
 |x51::tl3,m45,m46=>jn (fun(m49:List (q0a×Bool)) (m50:List (B8×YI))=>q9s R0 F l12 tl3 m49 m50) (fun k48=>jn (fun(m54:List (q0a×Bool)) (m55:List (B8×YI))=>k48 m54 m55) (fun k53=>z4f R0 F x51 k53 l12 m45 m46))
def q8y(R0:(YB×YA)->q0a->Option (YB×YA))(F:Nat)(k22:YB->YA->Option (YB×YA)):List q0a->YB->YA->Option (YB×YA)
 |[],m29,m30=>k22 m29 m30
 |x32::tl2,m29,m30=>(R0 (m29,m30) x32).bind fun y34=>q8y R0 F k22 tl2 (y34.1) (y34.2)
def z0c(F:Nat)(k11:YI->Option (YB×YA)):List Int->YI->Option (YB×YA)
 |[],l16=>k11 l16
 |x18::tl1,l16=>if (l16++([(q0a.mk false true ([]:B8) x18)]:List q0a)).length*32<=140737488355328 then z0c F k11 tl1 (l16++([(q0a.mk false true ([]:B8) x18)]:List q0a)) else none
def M90(R0:(YB×YA)->q0a->Option (YB×YA))(F:Nat)(a1:List B8)(a2:List B8)(a3:List Int)(a4:Bool)(a5:Bool)(a6:Bool)(a7:Int)(q0:List (q0a×Bool))(q1:List (B8×YI)):Option (YB×YA):=
 if a5=true then (w3x F (q4a.mk a1 a2 a3 a4 a5 a6 a7)).bind fun y9=>jn (fun(l12:List q0a)=>jn (fun(m23:List (q0a×Bool)) (m24:List (B8×YI))=>if (!a4)=true then if (!a6)=true then some (m23,m24)
 else (v9s F (q4a.mk a1 a2 a3 a4 a5 a6 a7)).bind fun y39=>q9s R0 F l12 y39 m23 m24
 else (v9s F (q4a.mk a1 a2 a3 a4 a5 a6 a7)).bind fun y69=>q9s R0 F l12 y69 m23 m24) (fun k22=>q8y R0 F k22 l12 q0 q1)) (fun k11=>z0c F k11 y9 ([(q0a.mk false false ([]:B8) 0)]:List q0a))
 else jn (fun(l100:List q0a)=>jn (fun(m116:List (q0a×Bool)) (m117:List (B8×YI))=>if (!a4)=true then if (!a6)=true then some (m116,m117)
 else (v9s F (q4a.mk a1 a2 a3 a4 a5 a6 a7)).bind fun y132=>q9s R0 F l100 y132 m116 m117
 else (v9s F (q4a.mk a1 a2 a3 a4 a5 a6 a7)).bind fun y162=>q9s R0 F l100 y162 m116 m117) (fun k115=>q8y R0 F k115 l100 q0 q1)) (fun k99=>if a6=true then (w3x F (q4a.mk a1 a2 a3 a4 a5 a6 a7)).bind fun y102=>jn (fun(l105:List q0a)=>k99 l105) (fun k104=>z0c F k104 y102 ([(q0a.mk false false ([]:B8) 0)]:List q0a))
 else k99 ([(q0a.mk false false ([]:B8) 0)]:List q0a))
def z4q(F:Nat)(x47:B8)(m55:List (q0a×Bool))(m56:List (B8×YI))(v52:q0a):Option (YB×YA):=
 jn (fun(m58:List (q0a×Bool)) (m59:List (B8×YI))=>some (m58,m59)) (fun k57=>if (!((q7f m55 v52).getD false))=true then if (((q7f m56 x47).getD [])++([v52]:List q0a)).length*32<=140737488355328 then k57 (q0m m55 v52 true) (q0m m56 x47 (((q7f m56 x47).getD [])++([v52]:List q0a))) else none
 else k57 m55 m56)
def z0w(F:Nat)(a1:(List YC))(k37:YG->YA->Option (YA×YG)):List B8->YG->YA->Option (YA×YG)
 |[],l44,m45=>k37 l44 m45
 |x47::tl1,l44,m45=>if (l44++([x47]:List B8)).length*16<=140737488355328 then (((q7f a1 x47).getD (none:Option q4a))).bind fun x50=>(M90 (fun p x=>z4q F x47 p.1 p.2 x) F x50.is x50.begins x50.numbers x50.asText x50.asNo x50.has x50.weight ([]:List (q0a×Bool)) m45).bind fun y62=>z0w F a1 k37 tl1 (l44++([x47]:List B8)) (y62.2) else none
def M35(F:Nat)(a1:(List YC))(a2:KV):Option (YA×YG):=
 (j0u a1).bind fun l35=>jn (fun(l38:List B8) (m39:List (B8×YI))=>some (m39,l38)) (fun k37=>z0w F a1 k37 l35 ([]:List B8) ([]:List (B8×YI)))
def w1x(F:Nat)(a1:q1b)(a2:B8):Option (q0a×Bool):=
 if a1.known.isNone=true then some (((q7f a1.by_ a2).getD (q0a.mk false false ([]:B8) 0)),true)
 else some (((q7f a1.by_ a2).getD (q0a.mk false false ([]:B8) 0)),((q7f (a1.known.getD []) a2).getD false))
def M72(F:Nat)(a1:Bool):Option Int:=
 if a1=true then some 1
 else some 2
def y8f(F:Nat)(a1:q7k)(a2:q1b):Option Int:=
 (w1x F a2 a1.name).bind fun y3=>if (!(y3.2))=true then some 0
 else if (y3.1).hasText=true then (M74 F a1.texts (y3.1).text).bind fun y7=>(M72 F y7).bind fun y9=>some y9
 else (M72 F false).bind fun y11=>some y11
def y7z(F:Nat)(a1:B8)(a2:Bool)(a3:Bool)(a4:B8)(a5:Int):Option Bool:=
 (y9j F a4 a1).bind fun y6=>some y6
def q6u(F:Nat)(a2:Bool)(a3:Bool)(a4:B8)(a5:Int)(k6:Option Int):List B8->Int->Option Int
  |[],n8=>k6
  |x10::tl1,n8=>(y7z F x10 a2 a3 a4 a5).bind fun y12=>if y12=true then some n8
 else q6u F a2 a3 a4 a5 k6 tl1 (n8+1)
def v5n(F:Nat)(a1:YG)(a2:Bool)(a3:Bool)(a4:B8)(a5:Int):Option Int:=
 jn (some (-1)) (fun k6=>q6u F a2 a3 a4 a5 k6 a1 0)
def v9a(F:Nat)(a1:YG)(a2:Bool)(a3:Bool)(a4:B8)(a5:Int):Option Bool:=
 (v5n F a1 a2 a3 a4 a5).bind fun y6=>some (decide (y6>=0))
def y6f(F:Nat)(a1:q2i)(a2:q1b):Option Int:=
 (w1x F a2 a1.name).bind fun y3=>if (!(y3.2))=true then some 0
 else if (y3.1).hasText=true then (v9a F a1.texts (y3.1).hasText (y3.1).hasNumber (y3.1).text (y3.1).number).bind fun y7=>(M72 F y7).bind fun y9=>some y9
 else (M72 F false).bind fun y11=>some y11
def y4f(F:Nat)(a1:q8j)(a2:q1b):Option Int:=
 (w1x F a2 a1.name).bind fun y3=>if (!(y3.2))=true then some 0
 else if (y3.1).hasText=true then (M72 F true).bind fun y7=>some y7
 else (M72 F (y3.1).hasNumber).bind fun y9=>some y9
def y2w(F:Nat)(a1:Int)(a2:Int)(a3:Int):Option Bool:=
 if (a2==1)=true then some (decide (a1<a3))
 else if (a2==2)=true then some (decide (a1<=a3))
 else if (a2==3)=true then some (a1==a3)
 else if (a2==4)=true then some (decide (a1>=a3))
 else some (decide (a1>a3))
def y2f(F:Nat)(a1:q1i)(a2:q1b):Option Int:=
 (w1x F a2 a1.name).bind fun y3=>if (!(y3.2))=true then some 0
 else if (y3.1).hasNumber=true then (y2w F (y3.1).number a1.op a1.n).bind fun y7=>(M72 F y7).bind fun y9=>some y9
 else (M72 F false).bind fun y11=>some y11
def M50(F:Nat)(a1:Int):Option Int:=
 if (a1==1)=true then some 2
 else if (a1==2)=true then some 1
 else some 0
def y0f(Riholds:KV->q1b->Option Int)(F:Nat)(a1:q7j)(a2:q1b):Option Int:=
 (Riholds a1.kid a2).bind fun y3=>(M50 F y3).bind fun y5=>some y5
def q5u(Riholds:KV->q1b->Option Int)(F:Nat)(a2:q1b)(k3:Int->Option Int):List KV->Int->Option Int
  |[],n7=>k3 n7
  |x10::tl1,n7=>(Riholds x10 a2).bind fun y12=>jn (fun(n15:Int)=>q5u Riholds F a2 k3 tl1 n15) (fun k14=>if (y12==2)=true then some 2
 else if (y12==0)=true then k14 0
 else k14 n7)
def M289(Riholds:KV->q1b->Option Int)(F:Nat)(a1:q0k)(a2:q1b):Option Int:=
 jn (fun(n4:Int)=>some n4) (fun k3=>q5u Riholds F a2 k3 a1.kids 1)
def q4u(Riholds:KV->q1b->Option Int)(F:Nat)(a2:q1b)(k3:Int->Option Int):List KV->Int->Option Int
  |[],n7=>k3 n7
  |x10::tl1,n7=>(Riholds x10 a2).bind fun y12=>jn (fun(n15:Int)=>q4u Riholds F a2 k3 tl1 n15) (fun k14=>if (y12==1)=true then some 1
 else if (y12==0)=true then k14 0
 else k14 n7)
def M290(Riholds:KV->q1b->Option Int)(F:Nat)(a1:q9j)(a2:q1b):Option Int:=
 jn (fun(n4:Int)=>some n4) (fun k3=>q4u Riholds F a2 k3 a1.kids 2)
def M291(F:Nat)(a1:q3j)(a2:q1b):Option Int:=
 some 1
def q3u(Riholds:KV->q1b->Option Int)(F:Nat)(k:KV)(a1:q1b):Option Int:=
 oel (z4w q8f 147 k) (fun y=>y8f F y a1) (oel (z4w q0e 148 k) (fun y=>y6f F y a1) (oel (z4w q9f 150 k) (fun y=>y4f F y a1) (oel (z4w q9d 152 k) (fun y=>y2f F y a1) (oel (z4w q7g 154 k) (fun y=>y0f Riholds F y a1) (oel (z4w q1g 156 k) (fun y=>M289 Riholds F y a1) (oel (z4w q0g 157 k) (fun y=>M290 Riholds F y a1) (oel (z4w q8g 159 k) (fun y=>M291 F y a1) (none))))))))
def q8m:Nat->KV->q1b->Option Int
 |0,_,_=>none
 |F+1,k,a1=>q3u (q8m F) F k a1
def z2c(R36:Int->YA->KV->YG->(List (B8×q0a))->(List (B8×Bool))->Option YH)(F:Nat)(a1:Int)(a2:YA)(a3:KV)(a4:List B8)(x38:B8)(k40:(List (B8×q0a))->(List (B8×Bool))->Option YH):List q0a->(List (B8×q0a))->(List (B8×Bool))->Option YH
  |[],m47,m48=>k40 m47 m48
  |x50::tl1,m47,m48=>(R36 (w64 (a1+1)) a2 a3 a4 (q0m m47 x38 x50) m48).bind fun y52=>if (y52.1)=true then some (true,(y52.2.1),(y52.2.2))
 else z2c R36 F a1 a2 a3 a4 x38 k40 tl1 (y52.2.1) (y52.2.2)
def z5x(R36:Int->YA->KV->YG->(List (B8×q0a))->(List (B8×Bool))->Option YH)(F:Nat)(a1:Int)(a2:YA)(a3:KV)(a4:List B8)(a5:List (B8×q0a))(a6:List (B8×Bool)):Option YH:=
 (q8m F a3 (q1b.mk a5 (some a6))).bind fun y33=>if (y33==1)=true then some (true,a5,a6)
 else if (y33==2)=true then some (false,a5,a6)
 else if (a1==((a4.length:Nat):Int))=true then some (false,a5,a6)
 else (idx a4 a1).bind fun x38=>jn (fun(m41:List (B8×q0a)) (m42:List (B8×Bool))=>some (false,(z4m m41 x38),(z4m m42 x38))) (fun k40=>z2c R36 F a1 a2 a3 a4 x38 k40 ((q7f a2 x38).getD ([]:YI)) a5 (q0m a6 x38 true))
def M36:Nat->Int->YA->KV->YG->(List (B8×q0a))->(List (B8×Bool))->Option YH
 |0,_,_,_,_,_,_=>none
 |F+1,a1,a2,a3,a4,a5,a6=>z5x (M36 F) F a1 a2 a3 a4 a5 a6
def z9v(F:Nat)(a3:List (B8×q0a))(k9:(List q1h)->(List q6c)->Option q4j):List B8->(List q1h)->(List q6c)->Option q4j
  |[],l16,l17=>k9 l16 l17
  |x19::tl1,l16,l17=>jn (fun(l22:List q1h)=>jn (fun(l26:List q6c)=>z9v F a3 k9 tl1 l22 l26) (fun k25=>if ((q7f a3 x19).getD (q0a.mk false false ([]:B8) 0)).hasNumber=true then if (l17++([(q6c.mk x19 ((q7f a3 x19).getD (q0a.mk false false ([]:B8) 0)).number)]:List q6c)).length*24<=140737488355328 then k25 (l17++([(q6c.mk x19 ((q7f a3 x19).getD (q0a.mk false false ([]:B8) 0)).number)]:List q6c)) else none
 else k25 l17)) (fun k21=>if ((q7f a3 x19).getD (q0a.mk false false ([]:B8) 0)).hasText=true then if (l16++([(q1h.mk x19 ((q7f a3 x19).getD (q0a.mk false false ([]:B8) 0)).text)]:List q1h)).length*32<=140737488355328 then k21 (l16++([(q1h.mk x19 ((q7f a3 x19).getD (q0a.mk false false ([]:B8) 0)).text)]:List q1h)) else none
 else k21 l16)
def M37(F:Nat)(a1:List B8)(a2:List (B8×YI))(a3:List (B8×q0a))(a4:List (B8×Bool))(a5:KV)(a6:B8):Option q4j:=
 (j0u a3).bind fun l7=>jn (fun(l10:List q1h) (l11:List q6c)=>some (q4j.mk a6 ([]:B8) l10 l11)) (fun k9=>z9v F a3 k9 l7 ([]:List q1h) ([]:List q6c))
def M9(F:Nat)(a1:q0c)(a2:B8):Option (q4j×Bool×Int):=
 (M30 F a1).bind fun y3=>if (y3 != 0)=true then some ((q4j.mk ([]:B8) ([]:B8) ([]:List q1h) ([]:List q6c)),false,y3)
 else (M31 F a2).bind fun y6=>if (!y6)=true then some ((q4j.mk ([]:B8) ([]:B8) ([]:List q1h) ([]:List q6c)),false,8)
 else (M32 F a1).bind fun y9=>(M33 F y9 ([]:List YC)).bind fun y11=>(M34 F y11).bind fun y13=>if (!y13)=true then some ((q4j.mk ([]:B8) ([]:B8) ([]:List q1h) ([]:List q6c)),false,3)
 else (M35 F y11 y9).bind fun y16=>(M36 F 0 (y16.1) y9 (y16.2) ([]:List (B8×q0a)) ([]:List (B8×Bool))).bind fun y18=>if (!(y18.1))=true then some ((q4j.mk ([]:B8) ([]:B8) ([]:List q1h) ([]:List q6c)),false,0)
 else (M37 F (y16.2) (y16.1) (y18.2.1) (y18.2.2) y9 a2).bind fun y21=>some (y21,true,0)
def j1e(R92:q0c->Int->Option Int)(F:Nat)(a1:q0c)(a2:Int)(k3:Int->Option Int):Nat->Int->Int->Option Int
 |0,_,_=>none
 |n+1,n7,n8=>if (decide (n8<((a1.Kids.length:Nat):Int)))=true then if (decide (n7<=a2))=true then (idx a1.Kids n8).bind fun x11=>(q1z q7a x11).bind fun y13=>(R92 y13 (w64 (a2 - n7))).bind fun y15=>j1e R92 F a1 a2 k3 n (w64 (n7+y15)) (w64 (n8+1))
 else k3 n7
 else k3 n7
def w1f(R92:q0c->Int->Option Int)(F:Nat)(a1:q0c)(a2:Int):Option Int:=
 jn (fun(n4:Int)=>some n4) (fun k3=>j1e R92 F a1 a2 k3 F 1 0)
def M92:Nat->q0c->Int->Option Int
 |0,_,_=>none
 |F+1,a1,a2=>w1f (M92 F) F a1 a2
def z3v(R93:q0c->Option Int)(F:Nat)(a1:q0c)(k2:Int->Option Int):Nat->Int->Int->Option Int
 |0,n7,n6=>k2 n6
 |tl1+1,n7,n6=>(idx a1.Kids n7).bind fun x9=>(q1z q7a x9).bind fun y11=>(R93 y11).bind fun y13=>z3v R93 F a1 k2 tl1 (n7+1) (if y13>n6 then y13 else n6)
def w0f(R93:q0c->Option Int)(F:Nat)(a1:q0c):Option Int:=
 jn (fun(n3:Int)=>some (w64 (n3+1))) (fun k2=>if ((a1.Kids.length:Nat):Int)<=9223372036854775807 then z3v R93 F a1 k2 ((((a1.Kids.length:Nat):Int):Int).toNat) 0 0 else none)
def M93:Nat->q0c->Option Int
 |0,_=>none
 |F+1,a1=>w0f (M93 F) F a1
def M80(F:Nat)(a1:Int)(a2:Int)(a3:Int):Option Bool:=
 if (decide (a1<a2))=true then some true
 else some (decide (a1>a3))
def v0s(F:Nat)(a1:q0c):Option Int:=
 (M80 F a1.Kind 1 8).bind fun y2=>if y2=true then some 7
 else if (decide (a1.Kind>=2))=true then if (a1.Kind==2)=true then jn (fun(b8:Bool)=>if (!(decide (a1.Kind<=5)))=true then if (!(a1.Name==([]:B8)))=true then some 2
 else if (!(a1.Kind==5))=true then if (a1.Op != 0)=true then some 2
 else if (a1.N != 0)=true then some 2
 else if (!b8)=true then some 2
 else some 0
 else if (!b8)=true then some 2
 else some 0
 else if (!(a1.Kind==5))=true then if (a1.Op != 0)=true then some 2
 else if (a1.N != 0)=true then some 2
 else if (!b8)=true then some 2
 else some 0
 else if (!b8)=true then some 2
 else some 0) (fun k7=>if (a1.Kind==6)=true then k7 (((a1.Kids.length:Nat):Int)==1)
 else jn (fun(b11:Bool)=>if b11=true then k7 (decide (((a1.Kids.length:Nat):Int)>=2))
 else k7 (((a1.Kids.length:Nat):Int)==0)) (fun k10=>if (a1.Kind==7)=true then k10 (a1.Kind==7)
 else k10 (a1.Kind==8)))
 else jn (fun(b27:Bool)=>if (!(decide (a1.Kind<=5)))=true then if (!(a1.Name==([]:B8)))=true then some 2
 else if (!(a1.Kind==3))=true then if (decide (((a1.Texts.length:Nat):Int)>0))=true then some 2
 else if (!(a1.Kind==5))=true then if (a1.Op != 0)=true then some 2
 else if (a1.N != 0)=true then some 2
 else if (!b27)=true then some 2
 else some 0
 else if (!b27)=true then some 2
 else some 0
 else if (!(a1.Kind==5))=true then if (a1.Op != 0)=true then some 2
 else if (a1.N != 0)=true then some 2
 else if (!b27)=true then some 2
 else some 0
 else if (!b27)=true then some 2
 else some 0
 else if (!(a1.Kind==3))=true then if (decide (((a1.Texts.length:Nat):Int)>0))=true then some 2
 else if (!(a1.Kind==5))=true then if (a1.Op != 0)=true then some 2
 else if (a1.N != 0)=true then some 2
 else if (!b27)=true then some 2
 else some 0
 else if (!b27)=true then some 2
 else some 0
 else if (!(a1.Kind==5))=true then if (a1.Op != 0)=true then some 2
 else if (a1.N != 0)=true then some 2
 else if (!b27)=true then some 2
 else some 0
 else if (!b27)=true then some 2
 else some 0) (fun k26=>if (a1.Kind==6)=true then k26 (((a1.Kids.length:Nat):Int)==1)
 else jn (fun(b30:Bool)=>if b30=true then k26 (decide (((a1.Kids.length:Nat):Int)>=2))
 else k26 (((a1.Kids.length:Nat):Int)==0)) (fun k29=>if (a1.Kind==7)=true then k29 (a1.Kind==7)
 else k29 (a1.Kind==8)))
 else if (a1.Kind==2)=true then jn (fun(b61:Bool)=>if (!(a1.Name==([]:B8)))=true then some 2
 else if (!(a1.Kind==5))=true then if (a1.Op != 0)=true then some 2
 else if (a1.N != 0)=true then some 2
 else if (!b61)=true then some 2
 else some 0
 else if (!b61)=true then some 2
 else some 0) (fun k60=>if (a1.Kind==6)=true then k60 (((a1.Kids.length:Nat):Int)==1)
 else jn (fun(b64:Bool)=>if b64=true then k60 (decide (((a1.Kids.length:Nat):Int)>=2))
 else k60 (((a1.Kids.length:Nat):Int)==0)) (fun k63=>if (a1.Kind==7)=true then k63 (a1.Kind==7)
 else k63 (a1.Kind==8)))
 else jn (fun(b74:Bool)=>if (!(a1.Name==([]:B8)))=true then some 2
 else if (!(a1.Kind==3))=true then if (decide (((a1.Texts.length:Nat):Int)>0))=true then some 2
 else if (!(a1.Kind==5))=true then if (a1.Op != 0)=true then some 2
 else if (a1.N != 0)=true then some 2
 else if (!b74)=true then some 2
 else some 0
 else if (!b74)=true then some 2
 else some 0
 else if (!(a1.Kind==5))=true then if (a1.Op != 0)=true then some 2
 else if (a1.N != 0)=true then some 2
 else if (!b74)=true then some 2
 else some 0
 else if (!b74)=true then some 2
 else some 0) (fun k73=>if (a1.Kind==6)=true then k73 (((a1.Kids.length:Nat):Int)==1)
 else jn (fun(b77:Bool)=>if b77=true then k73 (decide (((a1.Kids.length:Nat):Int)>=2))
 else k73 (((a1.Kids.length:Nat):Int)==0)) (fun k76=>if (a1.Kind==7)=true then k76 (a1.Kind==7)
 else k76 (a1.Kind==8)))
def z1v(F:Nat)(a1:B8)(k2:Option Bool):Nat->Int->Option Bool
  |0,n4=>k2
  |tl1+1,n4=>if 0<=n4/\n4.toNat<20 then if (((v2g [] [([114,117,108,101]:B8),([97,98,111,117,116]:B8),([119,104,101,110]:B8),([119,97,105,118,101]:B8),([102,111,114]:B8),([102,114,111,109]:B8),([116,111]:B8),([98,121]:B8),([97,115]:B8),([112,97,115,115]:B8),([110,111,116,101]:B8),([119,97,114,110]:B8),([100,101,110,121]:B8),([111,114]:B8),([97,110,100]:B8),([116,114,117,101]:B8),([105,115]:B8),([98,101,103,105,110,115]:B8),([104,97,115]:B8),([110,111,116]:B8)]) n4.toNat)==a1)=true then some true
 else z1v F a1 k2 tl1 (n4+1) else none
def M95(F:Nat)(a1:B8):Option Bool:=
 jn (some false) (fun k2=>if (20:Int)<=9223372036854775807 then z1v F a1 k2 ((20:Int).toNat) 0 else none)
def M96(F:Nat)(a1:Int):Option Bool:=
 if (decide (a1>=97))=true then if (decide (a1<=122))=true then some true
 else if (decide (a1>=48))=true then if (decide (a1<=57))=true then some true
 else some (a1==45)
 else some (a1==45)
 else if (decide (a1>=48))=true then if (decide (a1<=57))=true then some true
 else some (a1==45)
 else some (a1==45)
def j8e(F:Nat)(a1:B8)(k13:Option Bool):Nat->Int->Option Bool
  |0,n15=>k13
  |tl1+1,n15=>(idx a1 n15).bind fun c17=>(M96 F (c17.toNat:Int)).bind fun y19=>if (!y19)=true then some false
 else j8e F a1 k13 tl1 (n15+1)
def M39(F:Nat)(a1:B8):Option Bool:=
 if (a1==([]:B8))=true then some false
 else if (decide ((a1.length:Int)>40))=true then some false
 else (idx a1 0).bind fun c4=>if (decide ((c4.toNat:Int)<97))=true then some false
 else (idx a1 0).bind fun c7=>if (decide ((c7.toNat:Int)>122))=true then some false
 else (M95 F a1).bind fun y10=>if y10=true then some false
 else jn (some true) (fun k13=>if (a1.length:Int)<=9223372036854775807 then j8e F a1 k13 (((a1.length:Int):Int).toNat) 0 else none)
def j5e(F:Nat)(a1:B8)(k3:Option Bool):Nat->Int->Option Bool
  |0,n5=>k3
  |tl1+1,n5=>(idx a1 n5).bind fun c7=>if (decide ((c7.toNat:Int)<32))=true then some false
 else (idx a1 n5).bind fun c10=>if (decide ((c10.toNat:Int)>126))=true then some false
 else j5e F a1 k3 tl1 (n5+1)
def M79(F:Nat)(a1:B8):Option Bool:=
 if (decide ((a1.length:Int)>1000))=true then some false
 else jn (some true) (fun k3=>if (a1.length:Int)<=9223372036854775807 then j5e F a1 k3 (((a1.length:Int):Int).toNat) 0 else none)
def q7n(F:Nat)(a1:q0c)(k13:Option Int):List B8->Int->Option Int
  |[],n15=>k13
  |x18::tl1,n15=>jn (q7n F a1 k13 tl1 (n15+1)) (fun k17=>(M79 F x18).bind fun y20=>if (!y20)=true then some 2
 else if (decide (n15>0))=true then (idx a1.Texts n15).bind fun x24=>(idx a1.Texts (w64 (n15 - 1))).bind fun x26=>if (Op.bytesLess x24 x26||x24==x26)=true then some 10
 else k17
 else k17)
def j1i(F:Nat)(a1:q0c):Option Int:=
 (v0s F a1).bind fun y2=>if (y2 != 0)=true then some y2
 else if (decide (a1.Kind>=2))=true then if (decide (a1.Kind<=5))=true then (M39 F a1.Name).bind fun y7=>if (!y7)=true then some 8
 else if (a1.Kind==2)=true then if (((a1.Texts.length:Nat):Int)==0)=true then some 13
 else if (decide (((a1.Texts.length:Nat):Int)>50))=true then some 3
 else jn (jn (some 0) (fun k30=>if (a1.Kind==5)=true then (M80 F a1.Op 1 5).bind fun y32=>if y32=true then some 7
 else (M80 F a1.N (-1000000000000) 1000000000000).bind fun y35=>if y35=true then some 9
 else k30
 else k30)) (fun k13=>q7n F a1 k13 a1.Texts 0)
 else jn (jn (some 0) (fun k59=>if (a1.Kind==5)=true then (M80 F a1.Op 1 5).bind fun y61=>if y61=true then some 7
 else (M80 F a1.N (-1000000000000) 1000000000000).bind fun y64=>if y64=true then some 9
 else k59
 else k59)) (fun k38=>if (a1.Kind==3)=true then if (((a1.Texts.length:Nat):Int)==0)=true then some 13
 else if (decide (((a1.Texts.length:Nat):Int)>50))=true then some 3
 else jn (k38) (fun k42=>q7n F a1 k42 a1.Texts 0)
 else k38)
 else if (a1.Kind==2)=true then if (((a1.Texts.length:Nat):Int)==0)=true then some 13
 else if (decide (((a1.Texts.length:Nat):Int)>50))=true then some 3
 else jn (jn (some 0) (fun k87=>if (a1.Kind==5)=true then (M80 F a1.Op 1 5).bind fun y89=>if y89=true then some 7
 else (M80 F a1.N (-1000000000000) 1000000000000).bind fun y92=>if y92=true then some 9
 else k87
 else k87)) (fun k70=>q7n F a1 k70 a1.Texts 0)
 else jn (jn (some 0) (fun k116=>if (a1.Kind==5)=true then (M80 F a1.Op 1 5).bind fun y118=>if y118=true then some 7
 else (M80 F a1.N (-1000000000000) 1000000000000).bind fun y121=>if y121=true then some 9
 else k116
 else k116)) (fun k95=>if (a1.Kind==3)=true then if (((a1.Texts.length:Nat):Int)==0)=true then some 13
 else if (decide (((a1.Texts.length:Nat):Int)>50))=true then some 3
 else jn (k95) (fun k99=>q7n F a1 k99 a1.Texts 0)
 else k95)
 else if (a1.Kind==2)=true then if (((a1.Texts.length:Nat):Int)==0)=true then some 13
 else if (decide (((a1.Texts.length:Nat):Int)>50))=true then some 3
 else jn (jn (some 0) (fun k144=>if (a1.Kind==5)=true then (M80 F a1.Op 1 5).bind fun y146=>if y146=true then some 7
 else (M80 F a1.N (-1000000000000) 1000000000000).bind fun y149=>if y149=true then some 9
 else k144
 else k144)) (fun k127=>q7n F a1 k127 a1.Texts 0)
 else jn (jn (some 0) (fun k173=>if (a1.Kind==5)=true then (M80 F a1.Op 1 5).bind fun y175=>if y175=true then some 7
 else (M80 F a1.N (-1000000000000) 1000000000000).bind fun y178=>if y178=true then some 9
 else k173
 else k173)) (fun k152=>if (a1.Kind==3)=true then if (((a1.Texts.length:Nat):Int)==0)=true then some 13
 else if (decide (((a1.Texts.length:Nat):Int)>50))=true then some 3
 else jn (k152) (fun k156=>q7n F a1 k156 a1.Texts 0)
 else k152)
def z2v(R94:q0c->Option Int)(F:Nat)(a1:q0c)(k5:Option Int):Nat->Int->Option Int
  |0,n7=>k5
  |tl1+1,n7=>(idx a1.Kids n7).bind fun x9=>(q1z q7a x9).bind fun y11=>(R94 y11).bind fun y13=>if (y13 != 0)=true then some y13
 else z2v R94 F a1 k5 tl1 (n7+1)
def w9e(R94:q0c->Option Int)(F:Nat)(a1:q0c):Option Int:=
 (j1i F a1).bind fun y2=>if (y2 != 0)=true then some y2
 else jn (some 0) (fun k5=>if ((a1.Kids.length:Nat):Int)<=9223372036854775807 then z2v R94 F a1 k5 ((((a1.Kids.length:Nat):Int):Int).toNat) 0 else none)
def M94:Nat->q0c->Option Int
 |0,_=>none
 |F+1,a1=>w9e (M94 F) F a1
def M38(F:Nat)(a1:q0c):Option Int:=
 (M92 F a1 60).bind fun y2=>if (decide (y2>60))=true then some 3
 else (M93 F a1).bind fun y5=>if (decide (y5>12))=true then some 3
 else (M94 F a1).bind fun y8=>some y8
def z0m(F:Nat)(a1:YG)(a2:B8)(k3:Int->Option (Int×Bool)):Nat->Int->Int->Option (Int×Bool)
 |0,_,_=>none
 |n+1,n7,n8=>if (decide (n7<n8))=true then (idx a1 (w64 (Int.tdiv (w64 (n7+n8)) 2))).bind fun x10=>jn (fun(n13:Int) (n14:Int)=>z0m F a1 a2 k3 n n13 n14) (fun k12=>if (Op.bytesLess x10 a2)=true then k12 (w64 ((w64 (Int.tdiv (w64 (n7+n8)) 2))+1)) n8
 else k12 n7 (w64 (Int.tdiv (w64 (n7+n8)) 2)))
 else k3 n7
def w4x(F:Nat)(a1:YG)(a2:B8):Option (Int×Bool):=
 jn (fun(n4:Int)=>if (decide (n4<((a1.length:Nat):Int)))=true then (idx a1 n4).bind fun x17=>some (n4,(x17==a2))
 else some (n4,false)) (fun k3=>z0m F a1 a2 k3 F 0 ((a1.length:Nat):Int))
def w0r(F:Nat)(a1:YG)(a2:B8):Option YG:=
 (w4x F a1 a2).bind fun y3=>if (y3.2)=true then some a1
 else if 0<=(y3.1)/\(y3.1).toNat<=a1.length then if (a1.take (y3.1).toNat).length*16<=140737488355328 then if ((a1.take (y3.1).toNat)++([a2]:List B8)).length*16<=140737488355328 then if 0<=(y3.1)/\(y3.1).toNat<=a1.length then if (((a1.take (y3.1).toNat)++([a2]:List B8))++(a1.drop (y3.1).toNat)).length*16<=140737488355328 then some (((a1.take (y3.1).toNat)++([a2]:List B8))++(a1.drop (y3.1).toNat)) else none else none else none else none else none
def z6v(R51:q0c->YG->Option YG)(F:Nat)(a1:q0c)(k6:YG->Option YG):Nat->Int->YG->Option YG
 |0,n11,l10=>k6 l10
 |tl1+1,n11,l10=>(idx a1.Kids n11).bind fun x13=>(q1z q7a x13).bind fun y15=>(R51 y15 l10).bind fun y17=>z6v R51 F a1 k6 tl1 (n11+1) y17
def w4f(R51:q0c->YG->Option YG)(F:Nat)(a1:q0c)(a2:YG):Option YG:=
 if (!(a1.Name==([]:B8)))=true then (w0r F a2 a1.Name).bind fun y4=>some y4
 else jn (fun(l7:List B8)=>some l7) (fun k6=>if ((a1.Kids.length:Nat):Int)<=9223372036854775807 then z6v R51 F a1 k6 ((((a1.Kids.length:Nat):Int):Int).toNat) 0 a2 else none)
def M51:Nat->q0c->YG->Option YG
 |0,_,_=>none
 |F+1,a1,a2=>w4f (M51 F) F a1 a2
def q1w(R97_1:q0c->B8->(List q6e)->Option (List q6e))(F:Nat)(a1:q0c)(a2:B8)(k23:(List q6e)->Option (List q6e)):Nat->Int->(List q6e)->Option (List q6e)
 |0,n27,l28=>k23 l28
 |tl1+1,n27,l28=>(idx a1.Kids n27).bind fun x30=>(q1z q7a x30).bind fun y32=>(R97_1 y32 a2 l28).bind fun y34=>q1w R97_1 F a1 a2 k23 tl1 (n27+1) y34
def j0e(R97_1:q0c->B8->(List q6e)->Option (List q6e))(F:Nat)(a1:q0c)(a2:B8)(a3:List q6e):Option (List q6e):=
 if (a1.Name==a2)=true then if (a3++([y3a q7a a1]:List q6e)).length*88<=140737488355328 then some (a3++([y3a q7a a1]:List q6e)) else none
 else jn (fun(l24:List q6e)=>some l24) (fun k23=>if ((a1.Kids.length:Nat):Int)<=9223372036854775807 then q1w R97_1 F a1 a2 k23 ((((a1.Kids.length:Nat):Int):Int).toNat) 0 a3 else none)
def j1z:Nat->q0c->B8->(List q6e)->Option (List q6e)
 |0,_,_,_=>none
 |F+1,a1,a2,a3=>j0e (j1z F) F a1 a2 a3
def z0v(F:Nat)(a1:q0c)(a2:B8)(k22:(List q6e)->Option (List q6e)):Nat->Int->(List q6e)->Option (List q6e)
 |0,n26,l27=>k22 l27
 |tl1+1,n26,l27=>(idx a1.Kids n26).bind fun x29=>(q1z q7a x29).bind fun y31=>(j1z F y31 a2 l27).bind fun y33=>z0v F a1 a2 k22 tl1 (n26+1) y33
def M97(F:Nat)(a1:q0c)(a2:B8):Option (List q6e):=
 if (a1.Name==a2)=true then if (([]:List q6e)++([y3a q7a a1]:List q6e)).length*88<=140737488355328 then some (([]:List q6e)++([y3a q7a a1]:List q6e)) else none
 else jn (fun(l23:List q6e)=>some l23) (fun k22=>if ((a1.Kids.length:Nat):Int)<=9223372036854775807 then z0v F a1 a2 k22 ((((a1.Kids.length:Nat):Int):Int).toNat) 0 ([]:List q6e) else none)
def z9u(F:Nat)(a1:(List q6e))(k2:Bool->Bool->Bool->Option (Bool×Bool×Bool)):Nat->Int->Bool->Bool->Bool->Option (Bool×Bool×Bool)
  |0,n13,b10,b11,b12=>k2 b10 b11 b12
  |tl1+1,n13,b10,b11,b12=>jn (fun(b16:Bool) (b17:Bool) (b18:Bool)=>z9u F a1 k2 tl1 (n13+1) b16 b17 b18) (fun k15=>if b10=true then if b11=true then if b12=true then k15 true true true
 else (idx a1 n13).bind fun x22=>(q1z q7a x22).bind fun y24=>k15 true true (y24.Kind==4)
 else (idx a1 n13).bind fun x26=>(q1z q7a x26).bind fun y28=>if b12=true then k15 true (y28.Kind==5) true
 else (idx a1 n13).bind fun x31=>(q1z q7a x31).bind fun y33=>k15 true (y28.Kind==5) (y33.Kind==4)
 else (idx a1 n13).bind fun x35=>(q1z q7a x35).bind fun y37=>if (y37.Kind==2)=true then if b11=true then if b12=true then k15 true true true
 else (idx a1 n13).bind fun x42=>(q1z q7a x42).bind fun y44=>k15 true true (y44.Kind==4)
 else (idx a1 n13).bind fun x46=>(q1z q7a x46).bind fun y48=>if b12=true then k15 true (y48.Kind==5) true
 else (idx a1 n13).bind fun x51=>(q1z q7a x51).bind fun y53=>k15 true (y48.Kind==5) (y53.Kind==4)
 else (idx a1 n13).bind fun x55=>(q1z q7a x55).bind fun y57=>if b11=true then if b12=true then k15 (y57.Kind==3) true true
 else (idx a1 n13).bind fun x61=>(q1z q7a x61).bind fun y63=>k15 (y57.Kind==3) true (y63.Kind==4)
 else (idx a1 n13).bind fun x65=>(q1z q7a x65).bind fun y67=>if b12=true then k15 (y57.Kind==3) (y67.Kind==5) true
 else (idx a1 n13).bind fun x70=>(q1z q7a x70).bind fun y72=>k15 (y57.Kind==3) (y67.Kind==5) (y72.Kind==4))
def M98(F:Nat)(a1:(List q6e)):Option (Bool×Bool×Bool):=
 jn (fun(b3:Bool) (b4:Bool) (b5:Bool)=>some (b3,b4,b5)) (fun k2=>z9u F a1 k2 ((((a1.length:Nat):Int):Int).toNat) 0 false false false)
def q9y(F:Nat)(y16:(List q6e))(k18:Int->Option Bool):List q6e->Int->Int->Option Bool
  |[],n23,n22=>k18 n22
  |x25::tl2,n23,n22=>(q1z q7a x25).bind fun y27=>jn (fun(n30:Int)=>q9y F y16 k18 tl2 (n23+1) n30) (fun k29=>if (y27.Kind==2)=true then (idx y16 n23).bind fun x32=>(q1z q7a x32).bind fun y34=>k29 (w64 (n22+((y34.Texts.length:Nat):Int)))
 else if (y27.Kind==3)=true then (idx y16 n23).bind fun x37=>(q1z q7a x37).bind fun y39=>k29 (w64 (n22+(w64 (2*((y39.Texts.length:Nat):Int)))))
 else if (y27.Kind==5)=true then k29 (w64 (n22+2))
 else k29 n22)
def z7f(F:Nat)(a1:q0c)(y2:YG)(k4:Int->Option Bool):Nat->Int->Int->Option Bool
 |0,_,_=>none
 |n+1,n8,n9=>if (decide (n9<((y2.length:Nat):Int)))=true then if (decide (n8<=200000))=true then jn (fun(n13:Int)=>z7f F a1 y2 k4 n n13 (w64 (n9+1))) (fun k12=>(idx y2 n9).bind fun x14=>(M97 F a1 x14).bind fun y16=>jn (fun(n19:Int)=>(M98 F y16).bind fun y43=>if (y43.2.2)=true then k12 (w64 (n8*(w64 (n19+1))))
 else if (y43.1)=true then jn (fun(n48:Int)=>k12 (w64 (n8*n48))) (fun k47=>if (y43.2.1)=true then k47 (w64 (n19+1))
 else k47 n19)
 else k12 (w64 (n8*n19))) (fun k18=>q9y F y16 k18 y16 0 2))
 else k4 n8
 else k4 n8
def M40(F:Nat)(a1:q0c):Option Bool:=
 (M51 F a1 ([]:List B8)).bind fun y2=>jn (fun(n5:Int)=>some (decide (n5>200000))) (fun k4=>z7f F a1 y2 k4 F 1 0)
def M83(F:Nat)(a1:YG)(a2:B8):Option Bool:=
 (w4x F a1 a2).bind fun y3=>some (y3.2)
def q2x(F:Nat)(a2:YG)(x10:B8)(k16:YG->Option (B8×Bool)):Nat->Int->YG->Option (B8×Bool)
 |0,_,_=>none
 |n+1,n20,l21=>if (decide (n20<=126))=true then if (decide ((x10.length:Int)<1000))=true then if x10.length+(([n20]:List Int).map fun n=>UInt8.ofNat n.toNat).length<=9223372036854775807 then (M83 F a2 (x10++(([n20]:List Int).map fun n=>UInt8.ofNat n.toNat))).bind fun y25=>jn (fun(l28:List B8)=>q2x F a2 x10 k16 n (IntKind.wrap .u8 (n20+1)) l28) (fun k27=>if (!y25)=true then if (l21++([(x10++(([n20]:List Int).map fun n=>UInt8.ofNat n.toNat))]:List B8)).length*16<=140737488355328 then k27 (l21++([(x10++(([n20]:List Int).map fun n=>UInt8.ofNat n.toNat))]:List B8)) else none
 else k27 l21) else none
 else k16 l21
 else k16 l21
def z0b(F:Nat)(a2:YG)(a3:YG)(k4:Option (B8×Bool)):Nat->YG->Option (B8×Bool)
 |0,_=>none
 |n+1,l6=>if (decide (((l6.length:Nat):Int)>0))=true then jn (fun(l9:List B8)=>z0b F a2 a3 k4 n l9) (fun k8=>(idx l6 0).bind fun x10=>if 1<=l6.length then (M83 F a3 x10).bind fun y13=>if (!y13)=true then some (x10,true)
 else jn (fun(l17:List B8)=>k8 l17) (fun k16=>q2x F a2 x10 k16 F 32 (l6.drop 1)) else none)
 else k4
def y2g(F:Nat)(a1:B8)(a2:YG)(a3:YG):Option (B8×Bool):=
 jn (some (([]:B8),false)) (fun k4=>z0b F a2 a3 k4 F ([a1]:List B8))
def z2b(F:Nat)(l3:List B8)(l4:List B8)(k57:YG->Option YG):List B8->YG->Option YG
  |[],l62=>k57 l62
  |x64::tl3,l62=>(y2g F x64 l4 l3).bind fun y66=>jn (fun(l69:List B8)=>z2b F l3 l4 k57 tl3 l69) (fun k68=>if (y66.2)=true then if (l62++([(y66.1)]:List B8)).length*16<=140737488355328 then k68 (l62++([(y66.1)]:List B8)) else none
 else k68 l62)
def z8l(F:Nat)(a1:(List q6e))(n10:Int)(k15:YG->YG->Option YG):Nat->YG->YG->Int->Option YG
 |0,_,_,_=>none
 |n+1,l21,l22,n23=>(idx a1 n10).bind fun x24=>(q1z q7a x24).bind fun y26=>if (decide (n23<((y26.Texts.length:Nat):Int)))=true then (idx a1 n10).bind fun x29=>(q1z q7a x29).bind fun y31=>jn (fun(l34:List B8) (l35:List B8)=>z8l F a1 n10 k15 n l34 l35 (w64 (n23+1))) (fun k33=>if (y31.Kind==2)=true then (idx a1 n10).bind fun x37=>(q1z q7a x37).bind fun y39=>(idx y39.Texts n23).bind fun x41=>(w0r F l21 x41).bind fun y43=>k33 y43 l22
 else (idx a1 n10).bind fun x45=>(q1z q7a x45).bind fun y47=>(idx y47.Texts n23).bind fun x49=>(w0r F l22 x49).bind fun y51=>k33 l21 y51)
 else k15 l21 l22
def z3b(F:Nat)(a1:(List q6e))(k2:YG->YG->Option YG):Nat->Int->YG->YG->Option YG
 |0,n10,l8,l9=>k2 l8 l9
 |tl1+1,n10,l8,l9=>jn (fun(l13:List B8) (l14:List B8)=>z3b F a1 k2 tl1 (n10+1) l13 l14) (fun k12=>jn (fun(l16:List B8) (l17:List B8)=>k12 l16 l17) (fun k15=>z8l F a1 n10 k15 F l8 l9 0))
def y8g(F:Nat)(a1:(List q6e)):Option YG:=
 jn (fun(l3:List B8) (l4:List B8)=>if l3.length*16<=140737488355328 then (w0r F l4 ([]:B8)).bind fun y55=>jn (fun(l58:List B8)=>some l58) (fun k57=>z2b F l3 l4 k57 y55 l3) else none) (fun k2=>z3b F a1 k2 ((((a1.length:Nat):Int):Int).toNat) 0 ([]:List B8) ([]:List B8))
def z8f(F:Nat)(a1:(List Int))(a2:Int)(k3:(List Int)->Option (List Int)):List Int->Int->(List Int)->Option (List Int)
  |[],n7,l8=>k3 l8
  |x10::tl1,n7,l8=>if (x10==a2)=true then some a1
 else (idx a1 n7).bind fun x13=>if (decide (x13>a2))=true then if (l8++([a2]:List Int)).length*8<=140737488355328 then if 0<=n7/\n7.toNat<=a1.length then if ((l8++([a2]:List Int))++(a1.drop n7.toNat)).length*8<=140737488355328 then some ((l8++([a2]:List Int))++(a1.drop n7.toNat)) else none else none else none
 else (idx a1 n7).bind fun x19=>if (l8++([x19]:List Int)).length*8<=140737488355328 then z8f F a1 a2 k3 tl1 (n7+1) (l8++([x19]:List Int)) else none
def y8w(F:Nat)(a1:(List Int))(a2:Int):Option (List Int):=
 jn (fun(l4:List Int)=>if (l4++([a2]:List Int)).length*8<=140737488355328 then some (l4++([a2]:List Int)) else none) (fun k3=>z8f F a1 a2 k3 a1 0 ([]:List Int))
def q3x(F:Nat)(l3:List Int)(k24:(List Int)->Option (List Int)):List Int->Int->(List Int)->Option (List Int)
  |[],n28,l29=>k24 l29
  |x33::tl2,n28,l29=>jn (fun(l32:List Int)=>q3x F l3 k24 tl2 (n28+1) l32) (fun k31=>if (decide ((w64 (x33 - 1))>=(-1000000000000)))=true then if (n28==0)=true then if (l29++([(w64 (x33 - 1))]:List Int)).length*8<=140737488355328 then (idx l3 n28).bind fun x38=>if ((l29++([(w64 (x33 - 1))]:List Int))++([x38]:List Int)).length*8<=140737488355328 then k31 ((l29++([(w64 (x33 - 1))]:List Int))++([x38]:List Int)) else none else none
 else (idx l3 (w64 (n28 - 1))).bind fun x41=>jn (fun(l44:List Int)=>(idx l3 n28).bind fun x47=>if (l44++([x47]:List Int)).length*8<=140737488355328 then k31 (l44++([x47]:List Int)) else none) (fun k43=>if (decide (x41<(w64 (x33 - 1))))=true then if (l29++([(w64 (x33 - 1))]:List Int)).length*8<=140737488355328 then k43 (l29++([(w64 (x33 - 1))]:List Int)) else none
 else k43 l29)
 else (idx l3 n28).bind fun x50=>if (l29++([x50]:List Int)).length*8<=140737488355328 then k31 (l29++([x50]:List Int)) else none)
def z0g(F:Nat)(a1:(List q6e))(k2:(List Int)->Option (List Int)):List q6e->Int->(List Int)->Option (List Int)
  |[],n7,l6=>k2 l6
  |x9::tl1,n7,l6=>(q1z q7a x9).bind fun y11=>jn (fun(l14:List Int)=>z0g F a1 k2 tl1 (n7+1) l14) (fun k13=>if (y11.Kind==5)=true then (idx a1 n7).bind fun x16=>(q1z q7a x16).bind fun y18=>(y8w F l6 y18.N).bind fun y20=>k13 y20
 else k13 l6)
def w9q(F:Nat)(a1:(List q6e)):Option (List Int):=
 jn (fun(l3:List Int)=>if (((l3.length:Nat):Int)==0)=true then some ([0]:List Int)
 else jn (fun(l25:List Int)=>(idx l3 (w64 (((l3.length:Nat):Int) - 1))).bind fun x54=>jn (fun(l57:List Int)=>some l57) (fun k56=>if (decide ((w64 (x54+1))<=1000000000000))=true then if (l25++([(w64 (x54+1))]:List Int)).length*8<=140737488355328 then k56 (l25++([(w64 (x54+1))]:List Int)) else none
 else k56 l25)) (fun k24=>q3x F l3 k24 l3 0 ([]:List Int))) (fun k2=>z0g F a1 k2 a1 0 ([]:List Int))
def z2g(F:Nat)(y5:YG)(y8:(List Int))(n36:Int)(k41:YE->Option YE):Nat->Int->YE->Option YE
 |0,n45,l46=>k41 l46
 |tl4+1,n45,l46=>(idx y5 n36).bind fun x48=>(idx y8 n45).bind fun x50=>if (l46++([(q2a.mk true true x48 x50)]:List q2a)).length*32<=140737488355328 then z2g F y5 y8 n36 k41 tl4 (n45+1) (l46++([(q2a.mk true true x48 x50)]:List q2a)) else none
def z6b(F:Nat)(y5:YG)(y8:(List Int))(k32:YE->Option YE):Nat->Int->YE->Option YE
 |0,n36,l37=>k32 l37
 |tl3+1,n36,l37=>jn (fun(l40:List q2a)=>z6b F y5 y8 k32 tl3 (n36+1) l40) (fun k39=>jn (fun(l42:List q2a)=>k39 l42) (fun k41=>z2g F y5 y8 n36 k41 ((((y8.length:Nat):Int):Int).toNat) 0 l37))
def q6l(F:Nat)(k21:YE->Option YE):List Int->YE->Option YE
 |[],l26=>k21 l26
 |x28::tl2,l26=>if (l26++([(q2a.mk false true ([]:B8) x28)]:List q2a)).length*32<=140737488355328 then q6l F k21 tl2 (l26++([(q2a.mk false true ([]:B8) x28)]:List q2a)) else none
def q7l(F:Nat)(k10:YE->Option YE):List B8->YE->Option YE
 |[],l15=>k10 l15
 |x17::tl1,l15=>if (l15++([(q2a.mk true false x17 0)]:List q2a)).length*32<=140737488355328 then q7l F k10 tl1 (l15++([(q2a.mk true false x17 0)]:List q2a)) else none
def w5x(F:Nat)(a1:(List q6e)):Option YE:=
 (M98 F a1).bind fun y2=>if (y2.1)=true then (y8g F a1).bind fun y5=>if (y2.2.1)=true then (w9q F a1).bind fun y8=>jn (fun(l11:List q2a)=>jn (fun(l22:List q2a)=>jn (fun(l33:List q2a)=>some l33) (fun k32=>z6b F y5 y8 k32 ((((y5.length:Nat):Int):Int).toNat) 0 l22)) (fun k21=>q6l F k21 y8 l11)) (fun k10=>q7l F k10 y5 ([(q2a.mk false false ([]:B8) 0)]:List q2a))
 else jn (fun(l56:List Int)=>jn (fun(l61:List q2a)=>jn (fun(l72:List q2a)=>some l72) (fun k71=>q6l F k71 l56 l61)) (fun k60=>q7l F k60 y5 ([(q2a.mk false false ([]:B8) 0)]:List q2a))) (fun k55=>if (y2.2.2)=true then (w9q F a1).bind fun y58=>k55 y58
 else k55 ([]:List Int))
 else jn (fun(l83:List B8)=>if (y2.2.1)=true then (w9q F a1).bind fun y88=>jn (fun(l91:List q2a)=>jn (fun(l102:List q2a)=>some l102) (fun k101=>q6l F k101 y88 l91)) (fun k90=>q7l F k90 l83 ([(q2a.mk false false ([]:B8) 0)]:List q2a))
 else jn (fun(l113:List Int)=>jn (fun(l118:List q2a)=>jn (fun(l129:List q2a)=>some l129) (fun k128=>q6l F k128 l113 l118)) (fun k117=>q7l F k117 l83 ([(q2a.mk false false ([]:B8) 0)]:List q2a))) (fun k112=>if (y2.2.2)=true then (w9q F a1).bind fun y115=>k112 y115
 else k112 ([]:List Int))) (fun k82=>if (y2.2.2)=true then (y8g F a1).bind fun y85=>k82 y85
 else k82 ([]:List B8))
def z5v(F:Nat)(a1:q0c)(k27:(List YE)->Option (YG×(List YE)×(List Bool)×YE)):List B8->(List YE)->Option (YG×(List YE)×(List Bool)×YE)
 |[],l32=>k27 l32
 |x34::tl1,l32=>(M97 F a1 x34).bind fun y36=>(w5x F y36).bind fun y38=>if (l32++([y38]:List YE)).length*24<=140737488355328 then z5v F a1 k27 tl1 (l32++([y38]:List YE)) else none
def M82(F:Nat)(a1:q0c):Option (YG×(List YE)×(List Bool)×YE):=
 (M51 F a1 ([]:List B8)).bind fun y25=>jn (fun(l28:List YE)=>if 0<=((y25.length:Nat):Int)/\((1:Nat):Int)*((y25.length:Nat):Int)<=140737488355328/\((y25.length:Nat):Int)<=140737488355328 then if 0<=((y25.length:Nat):Int)/\((32:Nat):Int)*((y25.length:Nat):Int)<=140737488355328/\((y25.length:Nat):Int)<=140737488355328 then some (y25,l28,(List.replicate (((y25.length:Nat):Int)).toNat (false:Bool)),(List.replicate (((y25.length:Nat):Int)).toNat ((q2a.mk false false ([]:B8) 0):q2a))) else none else none) (fun k27=>z5v F a1 k27 y25 ([]:List YE))
def y8j(F:Nat)(a1:Bool):Option Int:=
 if a1=true then some 1
 else some 0
def y2x(F:Nat)(a1:Int)(a2:Int)(a3:Int):Option Bool:=
 if (a1==1)=true then some (decide (a2<a3))
 else if (a1==2)=true then some (decide (a2<=a3))
 else if (a1==3)=true then some (a2==a3)
 else if (a1==4)=true then some (decide (a2>=a3))
 else some (decide (a2>a3))
def y1x(F:Nat)(a1:B8)(a2:B8):Option Bool:=
 if (decide ((a1.length:Int)>=(a2.length:Int)))=true then if 0<=(a2.length:Int)/\(a2.length:Int).toNat<=a1.length then some ((a1.take (a2.length:Int).toNat)==a2) else none
 else some false
def z3g(F:Nat)(a1:q0c)(a2:q2a)(k9:Option Bool):Nat->Int->Option Bool
 |0,_=>none
 |n+1,n11=>if (decide (n11<((a1.Texts.length:Nat):Int)))=true then if a2.isText=true then jn (fun(b15:Bool)=>z3g F a1 a2 k9 n (w64 (n11+1))) (fun k14=>(idx a1.Texts n11).bind fun x16=>if (x16==a2.text)=true then some true
 else if (a1.Kind==3)=true then (idx a1.Texts n11).bind fun x20=>(y1x F a2.text x20).bind fun y22=>if y22=true then some true
 else k14 y22
 else k14 false)
 else k9
 else k9
def y1k(F:Nat)(a1:q0c)(a2:q2a):Option Bool:=
 if (a1.Kind==4)=true then if a2.isText=true then some true
 else some (a2.isNumber)
 else if (a1.Kind==5)=true then if a2.isNumber=true then (y2x F a1.Op a2.number a1.N).bind fun y7=>some y7
 else some false
 else jn (some false) (fun k9=>z3g F a1 a2 k9 F 0)
def q9q(R126:q4b->q0c->Option Int)(F:Nat)(a1:q4b)(a2:q0c)(y17:Int)(k19:Int->Option Int):Nat->Int->Int->Option Int
  |0,n24,n23=>k19 n23
  |tl1+1,n24,n23=>(idx a2.Kids n24).bind fun x26=>(q1z q7a x26).bind fun y28=>(R126 a1 y28).bind fun y30=>if (y30==y17)=true then some y17
 else jn (fun(n34:Int)=>q9q R126 F a1 a2 y17 k19 tl1 (n24+1) n34) (fun k33=>if (y30==2)=true then k33 2
 else k33 n23)
def v1b(R126:q4b->q0c->Option Int)(F:Nat)(a1:q4b)(a2:q0c):Option Int:=
 jn ((w4x F a1.names a2.Name).bind fun y37=>(idx a1.settled (y37.1)).bind fun x39=>if (!x39)=true then some 2
 else (idx a1.is (y37.1)).bind fun x42=>(y1k F a2 x42).bind fun y44=>(y8j F y44).bind fun y46=>some y46) (fun k3=>if (a2.Kind==1)=true then some 1
 else if (a2.Kind==6)=true then (idx a2.Kids 0).bind fun x6=>(q1z q7a x6).bind fun y8=>(R126 a1 y8).bind fun y10=>if (y10==2)=true then some 2
 else some (w64 (1 - y10))
 else jn (fun(b14:Bool)=>if b14=true then (y8j F (a2.Kind==8)).bind fun y17=>jn (fun(n20:Int)=>some n20) (fun k19=>if ((a2.Kids.length:Nat):Int)<=9223372036854775807 then q9q R126 F a1 a2 y17 k19 ((((a2.Kids.length:Nat):Int):Int).toNat) 0 (w64 (1 - y17)) else none)
 else k3) (fun k13=>if (a2.Kind==7)=true then k13 (a2.Kind==7)
 else k13 (a2.Kind==8)))
def w9g:Nat->q4b->q0c->Option Int
 |0,_,_=>none
 |F+1,a1,a2=>v1b (w9g F) F a1 a2
def z1g(F:Nat)(a1:q4b)(k2:Int->Int->Option Bool):Nat->Int->Int->Int->Option Bool
  |0,n10,n8,n9=>k2 n8 n9
  |tl1+1,n10,n8,n9=>jn (fun(n13:Int) (n14:Int)=>z1g F a1 k2 tl1 (n10+1) n13 n14) (fun k12=>(idx a1.settled n10).bind fun x15=>if x15=true then (idx a1.is n10).bind fun x18=>jn (fun(n21:Int)=>(idx a1.settled n10).bind fun x23=>if x23=true then (idx a1.is n10).bind fun x26=>jn (fun(n29:Int)=>k12 n21 n29) (fun k28=>if x26.isNumber=true then k28 (w64 (n9+1))
 else k28 n9)
 else k12 n21 n9) (fun k20=>if x18.isText=true then k20 (w64 (n8+1))
 else k20 n8)
 else (idx a1.settled n10).bind fun x31=>if x31=true then (idx a1.is n10).bind fun x34=>jn (fun(n37:Int)=>k12 n8 n37) (fun k36=>if x34.isNumber=true then k36 (w64 (n9+1))
 else k36 n9)
 else k12 n8 n9)
def y6x(F:Nat)(a1:q4b):Option Bool:=
 jn (fun(n3:Int) (n4:Int)=>if (decide (n3<=30))=true then some (decide (n4<=30))
 else some false) (fun k2=>if ((a1.names.length:Nat):Int)<=9223372036854775807 then z1g F a1 k2 ((((a1.names.length:Nat):Int):Int).toNat) 0 0 0 else none)
def z1c(R85:Int->Int->B8->YG->Int->Int->(List q6e)->YG->(List YE)->(List Bool)->YE->Option (Bool×(List Bool)×YE))(F:Nat)(a2:Int)(a3:B8)(a4:YG)(a5:Int)(a6:Int)(a7:(List q6e))(a8:YG)(a9:List YE)(n65:Int)(k73:(List Bool)->YE->Option (Bool×(List Bool)×YE)):Nat->Int->(List Bool)->YE->Option (Bool×(List Bool)×YE)
 |0,_,_,_=>none
 |n+1,n79,l80,l81=>(idx a9 n65).bind fun x82=>if (decide (n79<((x82.length:Nat):Int)))=true then (idx a9 n65).bind fun x85=>(idx x85 n79).bind fun x87=>(idx l81 n65).bind fun x89=>(R85 (w64 (n65+1)) a2 a3 a4 a5 a6 a7 a8 a9 l80 (l81.set n65.toNat x87)).bind fun y91=>if (y91.2.2).length=l81.length then if (y91.1)=true then some (true,(y91.2.1),(y91.2.2))
 else z1c R85 F a2 a3 a4 a5 a6 a7 a8 a9 n65 k73 n (w64 (n79+1)) (y91.2.1) (y91.2.2) else none
 else k73 l80 l81
def j4e(F:Nat)(a10:List Bool)(k64:Int->Option (Bool×(List Bool)×YE)):Nat->Int->Option (Bool×(List Bool)×YE)
 |0,_=>none
 |n+1,n67=>(idx a10 n67).bind fun x68=>if x68=true then j4e F a10 k64 n (w64 (n67+1))
 else k64 n67
def j0i(R85:Int->Int->B8->YG->Int->Int->(List q6e)->YG->(List YE)->(List Bool)->YE->Option (Bool×(List Bool)×YE))(F:Nat)(a1:Int)(a2:Int)(a3:B8)(a4:YG)(a5:Int)(a6:Int)(a7:(List q6e))(a8:YG)(a9:List YE)(a10:List Bool)(a11:List q2a):Option (Bool×(List Bool)×YE):=
 (w9g F (q4b.mk (q0c.mk a2 a3 a4 a5 a6 a7) a8 a9 a10 a11) (q0c.mk a2 a3 a4 a5 a6 a7)).bind fun y57=>if (y57==0)=true then some (false,a10,a11)
 else (y6x F (q4b.mk (q0c.mk a2 a3 a4 a5 a6 a7) a8 a9 a10 a11)).bind fun y60=>if (!y60)=true then some (false,a10,a11)
 else if (y57==1)=true then some (true,a10,a11)
 else jn (fun(n65:Int)=>(idx a10 n65).bind fun x71=>jn (fun(l74:List Bool) (l75:List q2a)=>(idx l74 n65).bind fun x95=>(idx l75 n65).bind fun x97=>some (false,(l74.set n65.toNat false),(l75.set n65.toNat (q2a.mk false false ([]:B8) 0)))) (fun k73=>z1c R85 F a2 a3 a4 a5 a6 a7 a8 a9 n65 k73 F 0 (a10.set n65.toNat true) a11)) (fun k64=>j4e F a10 k64 F a1)
def M85:Nat->Int->Int->B8->YG->Int->Int->(List q6e)->YG->(List YE)->(List Bool)->YE->Option (Bool×(List Bool)×YE)
 |0,_,_,_,_,_,_,_,_,_,_,_=>none
 |F+1,a1,a2,a3,a4,a5,a6,a7,a8,a9,a10,a11=>j0i (M85 F) F a1 a2 a3 a4 a5 a6 a7 a8 a9 a10 a11
def z8u(F:Nat)(a1:q4b)(k3:(List q1h)->(List q6c)->Option q4j):Nat->Int->(List q1h)->(List q6c)->Option q4j
  |0,n9,l10,l11=>k3 l10 l11
  |tl1+1,n9,l10,l11=>(idx a1.is n9).bind fun x13=>jn (fun(l16:List q1h)=>(idx a1.is n9).bind fun x23=>jn (fun(l26:List q6c)=>z8u F a1 k3 tl1 (n9+1) l16 l26) (fun k25=>if x23.isNumber=true then (idx a1.names n9).bind fun x28=>(idx a1.is n9).bind fun x30=>if (l11++([(q6c.mk x28 x30.number)]:List q6c)).length*24<=140737488355328 then k25 (l11++([(q6c.mk x28 x30.number)]:List q6c)) else none
 else k25 l11)) (fun k15=>if x13.isText=true then (idx a1.names n9).bind fun x18=>(idx a1.is n9).bind fun x20=>if (l10++([(q1h.mk x18 x20.text)]:List q1h)).length*32<=140737488355328 then k15 (l10++([(q1h.mk x18 x20.text)]:List q1h)) else none
 else k15 l10)
def M99(F:Nat)(a1:q4b)(a2:B8):Option q4j:=
 jn (fun(l4:List q1h) (l5:List q6c)=>some (q4j.mk a2 ([]:B8) l4 l5)) (fun k3=>if ((a1.names.length:Nat):Int)<=9223372036854775807 then z8u F a1 k3 ((((a1.names.length:Nat):Int):Int).toNat) 0 ([]:List q1h) ([]:List q6c) else none)
def M41(F:Nat)(a1:q0c)(a2:B8):Option (q4j×Bool):=
 (M82 F a1).bind fun y3=>(M85 F 0 a1.Kind a1.Name a1.Texts a1.Op a1.N a1.Kids (y3.1) (y3.2.1) (y3.2.2.1) (y3.2.2.2)).bind fun y5=>if (!(y5.1))=true then some ((q4j.mk ([]:B8) ([]:B8) ([]:List q1h) ([]:List q6c)),false)
 else (M99 F (q4b.mk a1 (y3.1) (y3.2.1) (y5.2.1) (y5.2.2)) a2).bind fun y8=>some (y8,true)
def M10(F:Nat)(a1:q0c)(a2:B8):Option (q4j×Bool×Int):=
 (M38 F a1).bind fun y3=>if (y3 != 0)=true then some ((q4j.mk ([]:B8) ([]:B8) ([]:List q1h) ([]:List q6c)),false,y3)
 else (M39 F a2).bind fun y6=>if (!y6)=true then some ((q4j.mk ([]:B8) ([]:B8) ([]:List q1h) ([]:List q6c)),false,8)
 else (M40 F a1).bind fun y9=>if y9=true then some ((q4j.mk ([]:B8) ([]:B8) ([]:List q1h) ([]:List q6c)),false,3)
 else (M41 F a1 a2).bind fun y12=>some ((y12.1),(y12.2),0)
def M11(F:Nat):Option Bool:=some true
def z7v(F:Nat)(a1:q4j)(k28:Option Int):List q6c->Int->Option Int
  |[],n30=>k28
  |x32::tl2,n30=>(M31 F x32.Name).bind fun y34=>jn (z7v F a1 k28 tl2 (n30+1)) (fun k36=>if (!y34)=true then some 8
 else (w3g F x32.N).bind fun y38=>if (!y38)=true then some 9
 else if (decide (n30>0))=true then (idx a1.Numbers (w64 (n30 - 1))).bind fun x42=>if (Op.bytesLess x32.Name x42.Name||x32.Name==x42.Name)=true then some 10
 else k36
 else k36)
def z8v(F:Nat)(a1:q4j)(k9:Option Int):List q1h->Int->Option Int
  |[],n11=>k9
  |x13::tl1,n11=>(M31 F x13.Name).bind fun y15=>jn (z8v F a1 k9 tl1 (n11+1)) (fun k17=>if (!y15)=true then some 8
 else (y8i F x13.Value).bind fun y19=>if (!y19)=true then some 2
 else if (decide (n11>0))=true then (idx a1.Texts (w64 (n11 - 1))).bind fun x23=>if (Op.bytesLess x13.Name x23.Name||x13.Name==x23.Name)=true then some 10
 else k17
 else k17)
def M43(F:Nat)(a1:q4j):Option Int:=
 (M31 F a1.Kind).bind fun y2=>if (!y2)=true then some 8
 else (y8i F a1.Subject).bind fun y5=>if (!y5)=true then some 2
 else if (decide (((a1.Texts.length:Nat):Int)>30))=true then some 3
 else jn (if (decide (((a1.Numbers.length:Nat):Int)>30))=true then some 3
 else jn (some 0) (fun k28=>z7v F a1 k28 a1.Numbers 0)) (fun k9=>z8v F a1 k9 a1.Texts 0)
def j6e(F:Nat)(k12:(List (B8×q0a))->Option q1b):List q6c->(List (B8×q0a))->Option q1b
 |[],m17=>k12 m17
 |x19::tl2,m17=>j6e F k12 tl2 (q0m m17 x19.Name (q0a.mk ((q7f m17 x19.Name).getD (q0a.mk false false ([]:B8) 0)).hasText true ((q7f m17 x19.Name).getD (q0a.mk false false ([]:B8) 0)).text x19.N))
def j7e(F:Nat)(k2:(List (B8×q0a))->Option q1b):List q1h->(List (B8×q0a))->Option q1b
 |[],m7=>k2 m7
 |x9::tl1,m7=>j7e F k2 tl1 (q0m m7 x9.Name (q0a.mk true ((q7f m7 x9.Name).getD (q0a.mk false false ([]:B8) 0)).hasNumber x9.Value ((q7f m7 x9.Name).getD (q0a.mk false false ([]:B8) 0)).number))
def M44(F:Nat)(a1:q4j):Option q1b:=
 jn (fun(m3:List (B8×q0a))=>jn (fun(m13:List (B8×q0a))=>some (q1b.mk m13 (none:Option (List (B8×Bool))))) (fun k12=>j6e F k12 a1.Numbers m3)) (fun k2=>j7e F k2 a1.Texts ([]:List (B8×q0a)))
def M12(F:Nat)(a1:q0c)(a2:q4j):Option (Bool×Int):=
 (M30 F a1).bind fun y3=>if (y3 != 0)=true then some (false,y3)
 else (M43 F a2).bind fun y6=>if (y6 != 0)=true then some (false,y6)
 else (M32 F a1).bind fun y9=>(M44 F a2).bind fun y11=>if y9.t∈([147,148,150,152,154,156,157,159]:List Nat) then (q8m F y9 y11).bind fun y14=>some ((y14==1),0) else none
def M46(R14:q0c->B8->Option Bool)(F:Nat)(a1:q0c)(a2:B8):Option Bool:=
 (R14 a1 a2).bind fun y3=>some y3
def z4g(R14:q0c->B8->Option Bool)(F:Nat)(a2:B8)(k3:Option Int):List q6e->Int->Option Int
  |[],n5=>k3
  |x7::tl1,n5=>(q1z q7a x7).bind fun y9=>(M46 R14 F y9 a2).bind fun y11=>if y11=true then some n5
 else z4g R14 F a2 k3 tl1 (n5+1)
def M107(R14:q0c->B8->Option Bool)(F:Nat)(a1:(List q6e))(a2:B8):Option Int:=
 jn (some (-1)) (fun k3=>z4g R14 F a2 k3 a1 0)
def M45(R14:q0c->B8->Option Bool)(F:Nat)(a1:(List q6e))(a2:B8):Option Bool:=
 (M107 R14 F a1 a2).bind fun y3=>some (decide (y3>=0))
def w8f(R14:q0c->B8->Option Bool)(F:Nat)(a1:q0c)(a2:B8):Option Bool:=
 if (a1.Name==a2)=true then some true
 else (M45 R14 F a1.Kids a2).bind fun y4=>some y4
def M14:Nat->q0c->B8->Option Bool
 |0,_,_=>none
 |F+1,a1,a2=>w8f (M14 F) F a1 a2
def M13(F:Nat)(a1:B8)(a2:Int)(a3:B8)(a4:List B8)(a5:Int)(a6:Int)(a7:List q6e):Option Bool:=
 (M14 F (q0c.mk a2 a3 a4 a5 a6 a7) a1).bind fun y8=>some (!y8)
def v3a(F:Nat)(a1:q0c)(k24:Option Bool):List q6c->Option Bool
  |[]=>k24
  |x28::tl2=>(M13 F x28.Name a1.Kind a1.Name a1.Texts a1.Op a1.N a1.Kids).bind fun y30=>if y30=true then some false
 else v3a F a1 k24 tl2
def v4a(F:Nat)(a1:q0c)(k14:Option Bool):List q1h->Option Bool
  |[]=>k14
  |x18::tl1=>(M13 F x18.Name a1.Kind a1.Name a1.Texts a1.Op a1.N a1.Kids).bind fun y20=>if y20=true then some false
 else v4a F a1 k14 tl1
def M3(F:Nat)(a1:q0c)(a2:B8):Option Bool:=
 (M9 F a1 a2).bind fun y3=>(M10 F a1 a2).bind fun y5=>if ((y3.2.1) != (y5.2.1))=true then some false
 else if ((y3.2.2) != (y5.2.2))=true then some false
 else if (!(y3.2.1))=true then (M11 F).bind fun y10=>some y10
 else (M12 F a1 (y3.1)).bind fun y12=>jn (jn (if ((y12.2)==0)=true then if (y12.1)=true then if ((y3.1).Kind==a2)=true then if ((y3.1).Subject==([]:B8))=true then (M11 F).bind fun y38=>some y38
 else some false
 else some false
 else some false
 else some false) (fun k24=>v3a F a1 k24 ((y3.1).Numbers))) (fun k14=>v4a F a1 k14 ((y3.1).Texts))
end
end Go.Proofs.YtelmfadihfcgnaaGreatDoor
