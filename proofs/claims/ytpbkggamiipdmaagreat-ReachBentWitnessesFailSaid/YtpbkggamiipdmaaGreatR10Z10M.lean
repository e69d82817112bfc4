/- Part of the proof: Z10M. -/
import Derived.Test.YtpbkggamiipdmaaGreatR10Z10T
namespace Go.Proofs.YtpbkggamiipdmaaGreat
open Go Go.Pv
set_option linter.unusedVariables false
set_option maxRecDepth 100000
noncomputable section
def j2i(F:Nat)(k23:(List (B8×Bool))->Option q9c):List q5e->(List (B8×Bool))->Option q9c
 |[],m28=>k23 m28
 |x30::tl3,m28=>j2i F k23 tl3 (q0g m28 x30.Name true)
def j3i(F:Nat)(k13:(List (B8×Bool))->Option q9c):List q7i->(List (B8×Bool))->Option q9c
 |[],m18=>k13 m18
 |x20::tl2,m18=>j3i F k13 tl2 (q0g m18 x20.Name true)
def j4i(F:Nat)(k3:(List (B8×q0f))->Option q9c):List q0f->(List (B8×q0f))->Option q9c
 |[],m8=>k3 m8
 |x10::tl1,m8=>j4i F k3 tl1 (q0g m8 x10.Name x10)
def M59(F:Nat)(a1:q7c)(a2:Bool):Option q9c:=
 jn (fun(m4:List (B8×q0f))=>jn (fun(m14:List (B8×Bool))=>jn (fun(m24:List (B8×Bool))=>some (q9c.mk a2 m4 m14 m24)) (fun k23=>j2i F k23 a1.Funcs ([]:List (B8×Bool)))) (fun k13=>j3i F k13 a1.Types ([]:List (B8×Bool)))) (fun k3=>j4i F k3 a1.Ifaces ([]:List (B8×q0f)))
def j7h(F:Nat)(a1:B8)(k2:Option Bool):Nat->Int->Option Bool
  |0,n4=>k2
  |tl1+1,n4=>(idx a1 n4).bind fun c6=>if (decide ((c6.toNat:Int)<33))=true then some false
 else (idx a1 n4).bind fun c9=>if (decide ((c9.toNat:Int)>126))=true then some false
 else (idx a1 n4).bind fun c12=>if ((c12.toNat:Int)==35)=true then some false
 else j7h F a1 k2 tl1 (n4+1)
def M79(F:Nat)(a1:B8):Option Bool:=
 jn (if (!(a1==([]:B8)))=true then some (decide ((a1.length:Int)<=100))
 else some false) (fun k2=>if (a1.length:Int)<=9223372036854775807 then j7h F a1 k2 (((a1.length:Int):Int).toNat) 0 else none)
def w0j(F:Nat)(a1:B8)(a2:B8)(a3:Bool):Option Int:=
 (M79 F a1).bind fun y4=>jn (some 0) (fun k6=>if (!y4)=true then some 8
 else if (!a3)=true then if (Op.bytesLess a1 a2||a1==a2)=true then some 10
 else k6
 else k6)
def z7g(F:Nat)(k18:Option Int):List B8->Int->B8->Option Int
  |[],n22,s21=>k18
  |x24::tl2,n22,s21=>(w0j F x24 s21 (n22==0)).bind fun y26=>if (y26 != 0)=true then some y26
 else z7g F k18 tl2 (n22+1) x24
def z8g(F:Nat)(k3:Option Int):List q0f->Int->B8->Option Int
  |[],n7,s6=>k3
  |x11::tl1,n7,s6=>jn (fun(s10:B8)=>z8g F k3 tl1 (n7+1) s10) (fun k9=>(w0j F x11.Name s6 (n7==0)).bind fun y13=>if (y13 != 0)=true then some y13
 else if (((x11.Methods.length:Nat):Int)==0)=true then some 13
 else if (decide (((x11.Methods.length:Nat):Int)>200))=true then some 3
 else jn (k9 x11.Name) (fun k18=>z7g F k18 x11.Methods 0 ([]:B8)))
def M127(F:Nat)(a1:q9c)(a2:(List q0f)):Option Int:=
 jn (some 0) (fun k3=>z8g F k3 a2 0 ([]:B8))
def z5g(F:Nat)(a1:q9c)(k17:Option Int):List q1k->Int->B8->Option Int
  |[],n21,s20=>k17
  |x25::tl2,n21,s20=>jn (fun(s24:B8)=>z5g F a1 k17 tl2 (n21+1) s24) (fun k23=>(w0j F x25.Name s20 (n21==0)).bind fun y27=>if (y27 != 0)=true then some y27
 else if (!a1.loose)=true then if (!((q6b a1.funcs x25.Func).getD false))=true then some 4
 else k23 x25.Name
 else k23 x25.Name)
def z6g(F:Nat)(a1:q9c)(k3:Option Int):List q7i->Int->B8->Option Int
  |[],n7,s6=>k3
  |x11::tl1,n7,s6=>jn (fun(s10:B8)=>z6g F a1 k3 tl1 (n7+1) s10) (fun k9=>(w0j F x11.Name s6 (n7==0)).bind fun y13=>if (y13 != 0)=true then some y13
 else if (decide (((x11.Methods.length:Nat):Int)>200))=true then some 3
 else jn (k9 x11.Name) (fun k17=>z5g F a1 k17 x11.Methods 0 ([]:B8)))
def M128(F:Nat)(a1:q9c)(a2:(List q7i)):Option Int:=
 jn (some 0) (fun k3=>z6g F a1 k3 a2 0 ([]:B8))
def j3h(F:Nat)(a2:B8)(k3:Option Int):List B8->Int->Option Int
  |[],n5=>k3
  |x7::tl1,n5=>if (a2==x7)=true then some n5
 else j3h F a2 k3 tl1 (n5+1)
def M86(F:Nat)(a1:(List B8))(a2:B8):Option Int:=
 jn (some (-1)) (fun k3=>j3h F a2 k3 a1 0)
def M23(F:Nat)(a1:(List B8))(a2:B8):Option Bool:=
 (M86 F a1 a2).bind fun y3=>some (decide (y3>=0))
def M174(F:Nat)(a1:q9c)(a2:q6c):Option Int:=
 jn (if (!(a2.Feature==([]:B8)))=true then (M79 F a2.Feature).bind fun y16=>if (!y16)=true then some 8
 else some 0
 else some 0) (fun k3=>if (a2.Kind==1)=true then if (!a1.loose)=true then if (!((q6b a1.funcs a2.Target).getD false))=true then some 4
 else if (!(a2.Method==([]:B8)))=true then some 2
 else k3
 else if (!(a2.Method==([]:B8)))=true then some 2
 else k3
 else if (a2.Kind==2)=true then if (!a1.loose)=true then if (!((q6b a1.ifaces a2.Target).isSome))=true then some 4
 else (M23 F ((q6b a1.ifaces a2.Target).getD (q0f.mk ([]:B8) ([]:(List B8)))).Methods a2.Method).bind fun y12=>if (!y12)=true then some 4
 else k3
 else k3
 else some 7)
def z2g(F:Nat)(a1:q9c)(a2:(List B8))(a3:(List (B8×Bool)))(k4:Option Int):List B8->Int->Option Int
  |[],n6=>k4
  |x8::tl1,n6=>jn (z2g F a1 a2 a3 k4 tl1 (n6+1)) (fun k10=>if (!a1.loose)=true then jn (k10) (fun k12=>if (!((q6b a3 x8).getD false))=true then some 4
 else if (decide (n6>0))=true then (idx a2 (w64 (n6 - 1))).bind fun x15=>if (Op.bytesLess x8 x15||x8==x15)=true then some 10
 else k12
 else k12)
 else if (decide (n6>0))=true then (idx a2 (w64 (n6 - 1))).bind fun x19=>if (Op.bytesLess x8 x19||x8==x19)=true then some 10
 else k10
 else k10)
def M130(F:Nat)(a1:q9c)(a2:(List B8))(a3:(List (B8×Bool))):Option Int:=
 jn (some 0) (fun k4=>z2g F a1 a2 a3 k4 a2 0)
def z3g(F:Nat)(a1:q9c)(k20:Option Int):List q6c->Option Int
  |[]=>k20
  |x24::tl2=>(M174 F a1 x24).bind fun y26=>if (y26 != 0)=true then some y26
 else z3g F a1 k20 tl2
def z4g(F:Nat)(a1:q9c)(k3:Option Int):List q5e->Int->B8->Option Int
  |[],n7,s6=>k3
  |x11::tl1,n7,s6=>jn (fun(s10:B8)=>z4g F a1 k3 tl1 (n7+1) s10) (fun k9=>(w0j F x11.Name s6 (n7==0)).bind fun y13=>if (y13 != 0)=true then some y13
 else (M79 F x11.Component).bind fun y16=>if (!y16)=true then some 8
 else if (decide (((x11.Calls.length:Nat):Int)>200))=true then some 3
 else jn ((M130 F a1 x11.Makes a1.types).bind fun y30=>if (y30 != 0)=true then some y30
 else k9 x11.Name) (fun k20=>z3g F a1 k20 x11.Calls))
def M129(F:Nat)(a1:q9c)(a2:(List q5e)):Option Int:=
 jn (some 0) (fun k3=>z4g F a1 k3 a2 0 ([]:B8))
def M60(F:Nat)(a1:q9c)(a2:q7c):Option Int:=
 if (decide (((a2.Ifaces.length:Nat):Int)>200))=true then some 3
 else if (decide (((a2.Types.length:Nat):Int)>500))=true then some 3
 else if (decide (((a2.Funcs.length:Nat):Int)>3000))=true then some 3
 else (M127 F a1 a2.Ifaces).bind fun y6=>if (y6 != 0)=true then some y6
 else (M128 F a1 a2.Types).bind fun y9=>if (y9 != 0)=true then some y9
 else (M129 F a1 a2.Funcs).bind fun y12=>if (y12 != 0)=true then some y12
 else (M130 F a1 a2.Entries a1.funcs).bind fun y15=>some y15
def M17(F:Nat)(a1:q7c):Option Int:=
 (M59 F a1 false).bind fun y2=>(M60 F y2 a1).bind fun y4=>some y4
def z6f(F:Nat)(k3:Option Int):List B8->Int->B8->Option Int
  |[],n7,s6=>k3
  |x9::tl1,n7,s6=>(w0j F x9 s6 (n7==0)).bind fun y11=>if (y11 != 0)=true then some y11
 else z6f F k3 tl1 (n7+1) x9
def M143(F:Nat)(a1:(List B8)):Option Int:=
 if (decide (((a1.length:Nat):Int)>30))=true then some 3
 else jn (some 0) (fun k3=>z6f F k3 a1 0 ([]:B8))
def M158(F:Nat)(a1:B8):Option Bool:=
 some (!(a1==a1))
def M100(F:Nat)(a1:B8)(a2:B8):Option Int:=
 (M158 F a1).bind fun y3=>(M158 F a2).bind fun y5=>if y3=true then if y5=true then some 0
 else some (-1)
 else if y5=true then some 1
 else if (Op.bytesLess a1 a2)=true then some (-1)
 else if (!(Op.bytesLess a1 a2||a1==a2))=true then some 1
 else some 0
def y4c(F:Nat)(a1:q1k)(a2:B8):Option Int:=
 (M100 F a1.Name a2).bind fun y3=>some y3
def q3y(F:Nat)(a1:(List q1k))(a2:B8)(k3:Int->Option (Int×Bool)):Nat->Int->Int->Option (Int×Bool)
 |0,_,_=>none
 |n+1,n7,n8=>if (decide (n7<n8))=true then (idx a1 (w64 (Int.fdiv (IntKind.wrap .u64 (w64 (n7+n8))) (2 ^ (min (Int.toNat 1) (IntKind.bits .u64)))))).bind fun x10=>(y4c F x10 a2).bind fun y12=>jn (fun(n15:Int) (n16:Int)=>q3y F a1 a2 k3 n n15 n16) (fun k14=>if (decide (y12<0))=true then k14 (w64 ((w64 (Int.fdiv (IntKind.wrap .u64 (w64 (n7+n8))) (2 ^ (min (Int.toNat 1) (IntKind.bits .u64)))))+1)) n8
 else k14 n7 (w64 (Int.fdiv (IntKind.wrap .u64 (w64 (n7+n8))) (2 ^ (min (Int.toNat 1) (IntKind.bits .u64))))))
 else k3 n7
def M207(F:Nat)(a1:(List q1k))(a2:B8):Option (Int×Bool):=
 jn (fun(n4:Int)=>if (decide (n4<((a1.length:Nat):Int)))=true then (idx a1 n4).bind fun x19=>(y4c F x19 a2).bind fun y21=>some (n4,(y21==0))
 else some (n4,false)) (fun k3=>q3y F a1 a2 k3 F 0 ((a1.length:Nat):Int))
def M169(F:Nat)(a1:q7i)(a2:B8):Option (B8×Bool):=
 (M207 F a1.Methods a2).bind fun y3=>if (!(y3.2))=true then some (([]:B8),false)
 else (idx a1.Methods (y3.1)).bind fun x6=>some (x6.Func,true)
def z8u(F:Nat)(a1:q7i)(k3:Option Bool):List B8->Option Bool
  |[]=>k3
  |x7::tl1=>(M169 F a1 x7).bind fun y9=>if (!(y9.2))=true then some false
 else z8u F a1 k3 tl1
def M117(F:Nat)(a1:q7i)(a2:q0f):Option Bool:=
 jn (some true) (fun k3=>z8u F a1 k3 a2.Methods)
def j5i(F:Nat)(k52:(List (B8×Bool))->Option (Option q1b)):List B8->(List (B8×Bool))->Option (Option q1b)
 |[],m57=>k52 m57
 |x59::tl5,m57=>j5i F k52 tl5 (q0g m57 x59 true)
def z4x(F:Nat)(x33:q0f)(k35:(List (B8×(List Int)))->Option (Option q1b)):List q7i->Int->(List (B8×(List Int)))->Option (Option q1b)
  |[],n39,m40=>k35 m40
  |x42::tl4,n39,m40=>(M117 F x42 x33).bind fun y44=>jn (fun(m47:List (B8×(List Int)))=>z4x F x33 k35 tl4 (n39+1) m47) (fun k46=>if y44=true then if (((q6b m40 x33.Name).getD [])++([n39]:List Int)).length*8<=140737488355328 then k46 (q0g m40 x33.Name (((q6b m40 x33.Name).getD [])++([n39]:List Int))) else none
 else k46 m40)
def j7i(F:Nat)(a1:q7c)(k24:(List (B8×(List Int)))->Option (Option q1b)):List q0f->(List (B8×(List Int)))->Option (Option q1b)
 |[],m29=>k24 m29
 |x33::tl3,m29=>jn (fun(m32:List (B8×(List Int)))=>j7i F a1 k24 tl3 m32) (fun k31=>jn (fun(m36:List (B8×(List Int)))=>k31 m36) (fun k35=>z4x F x33 k35 a1.Types 0 m29))
def j8i(F:Nat)(k14:(List (B8×Int))->Option (Option q1b)):List q7i->Int->(List (B8×Int))->Option (Option q1b)
 |[],n18,m19=>k14 m19
 |x21::tl2,n18,m19=>j8i F k14 tl2 (n18+1) (q0g m19 x21.Name n18)
def j9i(F:Nat)(k4:(List (B8×Int))->Option (Option q1b)):List q5e->Int->(List (B8×Int))->Option (Option q1b)
 |[],n8,m9=>k4 m9
 |x11::tl1,n8,m9=>j9i F k4 tl1 (n8+1) (q0g m9 x11.Name n8)
def M41(F:Nat)(a1:q7c)(a2:Int)(a3:(List B8)):Option (Option q1b):=
 jn (fun(m5:List (B8×Int))=>jn (fun(m15:List (B8×Int))=>jn (fun(m25:List (B8×(List Int)))=>jn (fun(m53:List (B8×Bool))=>some (some (q1b.mk a1 m5 m15 m25 m53 (a2==2)))) (fun k52=>j5i F k52 a3 (q0g ([]:List (B8×Bool)) ([]:B8) true))) (fun k24=>j7i F a1 k24 a1.Ifaces ([]:List (B8×(List Int))))) (fun k14=>j8i F k14 a1.Types 0 ([]:List (B8×Int)))) (fun k4=>j9i F k4 a1.Funcs 0 ([]:List (B8×Int)))
def M78(F:Nat)(a1:q7c)(a2:Int)(a3:(List B8)):Option ((Option q1b)×Int):=
 (M17 F a1).bind fun y4=>if (y4 != 0)=true then some ((none:Option q1b),y4)
 else (M143 F a3).bind fun y7=>if (y7 != 0)=true then some ((none:Option q1b),y7)
 else if (a2 != 1)=true then if (a2 != 2)=true then some ((none:Option q1b),7)
 else (M41 F a1 a2 a3).bind fun y12=>(y12).bind fun x14=>some ((some x14),0)
 else (M41 F a1 a2 a3).bind fun y16=>(y16).bind fun x18=>some ((some x18),0)
def M90(F:Nat)(a1:q7c)(a2:Int)(a3:(List B8))(a4:B8):Option ((Option q1b)×Int×Int):=
 (M78 F a1 a2 a3).bind fun y5=>if ((y5.2) != 0)=true then some ((none:Option q1b),0,(y5.2))
 else ((y5.1)).bind fun x8=>if (!((q6b x8.funcs a4).isSome))=true then some ((none:Option q1b),0,4)
 else some ((some x8),((q6b x8.funcs a4).getD 0),0)
def v8v(F:Nat)(a1:Int)(a2:q1b)(a3:List Bool)(a4:List Bool)(a5:List (q2a×Bool))(a6:List q2a)(a7:List Int)(a8:List Int):Option ((List Bool)×(List Int)):=
 (idx a3 a1).bind fun x17=>if (!x17)=true then (idx a3 a1).bind fun x20=>if (a8++([a1]:List Int)).length*8<=140737488355328 then some ((a3.set a1.toNat true),(a8++([a1]:List Int))) else none
 else some (a3,a8)
def z6m(F:Nat)(a2:Int)(k3:Option Int):List Int->Int->Option Int
  |[],n5=>k3
  |x7::tl1,n5=>if (a2==x7)=true then some n5
 else z6m F a2 k3 tl1 (n5+1)
def M204(F:Nat)(a1:(List Int))(a2:Int):Option Int:=
 jn (some (-1)) (fun k3=>z6m F a2 k3 a1 0)
def w5u(F:Nat)(a1:(List Int))(a2:Int):Option Bool:=
 (M204 F a1 a2).bind fun y3=>some (decide (y3>=0))
def z3f(F:Nat)(a1:q1b)(a2:q6c)(a3:Int):Option Int:=
 (idx a1.g.Types a3).bind fun x4=>(M169 F x4 a2.Method).bind fun y6=>some ((q6b a1.funcs (y6.1)).getD 0)
def z4f(F:Nat)(a1:Int)(a2:q1b)(a4:List Bool)(a5:List (q2a×Bool))(a6:List q2a)(a7:List Int):List q2a->(List Bool)->(List Int)->Option ((List Bool)×(List Bool)×(List Int))
  |[],l48,l49=>some (l48,(a4.set a1.toNat true),l49)
  |x51::tl1,l48,l49=>(w5u F ((q6b a2.fitting x51.iface).getD ([]:(List Int))) a1).bind fun y53=>jn (fun(l56:List Bool) (l57:List Int)=>z4f F a1 a2 a4 a5 a6 a7 tl1 l56 l57) (fun k55=>if y53=true then (z3f F a2 (q6c.mk 0 x51.iface x51.method ([]:B8)) a1).bind fun y59=>(v8v F y59 a2 l48 (a4.set a1.toNat true) a5 a6 a7 l49).bind fun y61=>k55 (y61.1) (y61.2)
 else k55 l48 l49)
def M149(F:Nat)(a1:Int)(a2:q1b)(a3:List Bool)(a4:List Bool)(a5:List (q2a×Bool))(a6:List q2a)(a7:List Int)(a8:List Int):Option ((List Bool)×(List Bool)×(List Int)):=
 (idx a4 a1).bind fun x38=>if x38=true then some (a3,a4,a8)
 else (idx a4 a1).bind fun x41=>if (!a2.made)=true then some (a3,(a4.set a1.toNat true),a8)
 else z4f F a1 a2 a4 a5 a6 a7 a6 a3 a8
def z0c(F:Nat)(a1:q6c)(a2:q1b)(a4:List Bool)(a5:List (q2a×Bool))(a6:List q2a)(a7:List Int):List Int->(List Bool)->(List Int)->Option ((List Bool)×(List (q2a×Bool))×(List q2a)×(List Int))
  |[],l55,l56=>some (l55,(q0g a5 (q2a.mk a1.Target a1.Method) true),(a6++([(q2a.mk a1.Target a1.Method)]:List q2a)),l56)
  |x61::tl1,l55,l56=>jn (fun(l59:List Bool) (l60:List Int)=>z0c F a1 a2 a4 a5 a6 a7 tl1 l59 l60) (fun k58=>if (!a2.made)=true then (z3f F a2 a1 x61).bind fun y64=>(v8v F y64 a2 l55 a4 (q0g a5 (q2a.mk a1.Target a1.Method) true) (a6++([(q2a.mk a1.Target a1.Method)]:List q2a)) a7 l56).bind fun y66=>k58 (y66.1) (y66.2)
 else (idx a4 x61).bind fun x68=>jn (fun(l71:List Bool) (l72:List Int)=>k58 l71 l72) (fun k70=>if x68=true then (z3f F a2 a1 x61).bind fun y74=>(v8v F y74 a2 l55 a4 (q0g a5 (q2a.mk a1.Target a1.Method) true) (a6++([(q2a.mk a1.Target a1.Method)]:List q2a)) a7 l56).bind fun y76=>k70 (y76.1) (y76.2)
 else k70 l55 l56))
def M150(F:Nat)(a1:q6c)(a2:q1b)(a3:List Bool)(a4:List Bool)(a5:List (q2a×Bool))(a6:List q2a)(a7:List Int)(a8:List Int):Option ((List Bool)×(List (q2a×Bool))×(List q2a)×(List Int)):=
 if (a1.Kind==1)=true then (v8v F ((q6b a2.funcs a1.Target).getD 0) a2 a3 a4 a5 a6 a7 a8).bind fun y47=>some ((y47.1),a5,a6,(y47.2))
 else if ((q6b a5 (q2a.mk a1.Target a1.Method)).getD false)=true then some (a3,a5,a6,a8)
 else if (a6++([(q2a.mk a1.Target a1.Method)]:List q2a)).length*32<=140737488355328 then z0c F a1 a2 a4 a5 a6 a7 ((q6b a2.fitting a1.Target).getD ([]:(List Int))) a3 a8 else none
def z8w(F:Nat)(a1:q1b)(a2:Int)(l51:List Bool)(k20:(List Bool)->(List Bool)->(List (q2a×Bool))->(List q2a)->(List Int)->Option (Option q5c))(k69:(List Bool)->(List (q2a×Bool))->(List q2a)->(List Int)->Option (Option q5c)):List q6c->(List Bool)->(List (q2a×Bool))->(List q2a)->(List Int)->Option (Option q5c)
  |[],l80,m81,l82,l83=>k69 l80 m81 l82 l83
  |x90::tl4,l80,m81,l82,l83=>jn (fun(l86:List Bool) (m87:List (q2a×Bool)) (l88:List q2a) (l89:List Int)=>z8w F a1 a2 l51 k20 k69 tl4 l86 m87 l88 l89) (fun k85=>if (!((q6b a1.on x90.Feature).getD false))=true then k85 l80 m81 l82 l83
 else (M150 F x90 a1 l80 l51 m81 l82 ([]:List Int) l83).bind fun y93=>if (decide (a2>=0))=true then (idx (y93.1) a2).bind fun x96=>if x96=true then k20 (y93.1) l51 (y93.2.1) (y93.2.2.1) (y93.2.2.2)
 else k85 (y93.1) (y93.2.1) (y93.2.2.1) (y93.2.2.2)
 else k85 (y93.1) (y93.2.1) (y93.2.2.1) (y93.2.2.2))
def j1h(F:Nat)(a1:q1b)(m33:List (q2a×Bool))(l34:List q2a)(k49:(List Bool)->(List Bool)->(List Int)->Option (Option q5c)):List B8->(List Bool)->(List Bool)->(List Int)->Option (Option q5c)
 |[],l58,l59,l60=>k49 l58 l59 l60
 |x62::tl3,l58,l59,l60=>(M149 F ((q6b a1.types x62).getD 0) a1 l58 l59 m33 l34 ([]:List Int) l60).bind fun y64=>j1h F a1 m33 l34 k49 tl3 (y64.1) (y64.2.1) (y64.2.2)
def z2f(F:Nat)(a1:q1b)(a2:Int)(k20:(List Bool)->(List Bool)->(List (q2a×Bool))->(List q2a)->(List Int)->Option (Option q5c)):Nat->(List Bool)->(List Bool)->(List (q2a×Bool))->(List q2a)->(List Int)->Option (Option q5c)
 |0,_,_,_,_,_=>none
 |n+1,l31,l32,m33,l34,l35=>if (decide (((l35.length:Nat):Int)>0))=true then jn (fun(l38:List Bool) (l39:List Bool) (m40:List (q2a×Bool)) (l41:List q2a) (l42:List Int)=>z2f F a1 a2 k20 n l38 l39 m40 l41 l42) (fun k37=>(idx l35 0).bind fun x43=>if 1<=l35.length then if (x43==a2)=true then k20 l31 l32 m33 l34 (l35.drop 1)
 else (idx a1.g.Funcs x43).bind fun x47=>jn (fun(l50:List Bool) (l51:List Bool) (l52:List Int)=>(idx a1.g.Funcs x43).bind fun x67=>jn (fun(l70:List Bool) (m71:List (q2a×Bool)) (l72:List q2a) (l73:List Int)=>k37 l70 l51 m71 l72 l73) (fun k69=>z8w F a1 a2 l51 k20 k69 x67.Calls l50 m33 l34 l52)) (fun k49=>j1h F a1 m33 l34 k49 x47.Makes l31 l32 (l35.drop 1)) else none)
 else k20 l31 l32 m33 l34 l35
def j2h(F:Nat)(a1:q1b)(k5:(List Bool)->(List Int)->Option (Option q5c)):List B8->(List Bool)->(List Int)->Option (Option q5c)
 |[],l12,l13=>k5 l12 l13
 |x15::tl1,l12,l13=>(v8v F ((q6b a1.funcs x15).getD 0) a1 l12 (List.replicate (((a1.g.Types.length:Nat):Int)).toNat (false:Bool)) ([]:List (q2a×Bool)) ([]:List q2a) ([]:List Int) l13).bind fun y17=>j2h F a1 k5 tl1 (y17.1) (y17.2)
def M89(F:Nat)(a1:q1b)(a2:Int):Option (Option q5c):=
 if 0<=((a1.g.Funcs.length:Nat):Int)/\((1:Nat):Int)*((a1.g.Funcs.length:Nat):Int)<=140737488355328/\((a1.g.Funcs.length:Nat):Int)<=140737488355328 then if 0<=((a1.g.Types.length:Nat):Int)/\((1:Nat):Int)*((a1.g.Types.length:Nat):Int)<=140737488355328/\((a1.g.Types.length:Nat):Int)<=140737488355328 then jn (fun(l6:List Bool) (l7:List Int)=>jn (fun(l21:List Bool) (l22:List Bool) (m23:List (q2a×Bool)) (l24:List q2a) (l25:List Int)=>some (some (q5c.mk (some a1) l21 l22 m23 l24 ([]:List Int) l25))) (fun k20=>z2f F a1 a2 k20 F l6 (List.replicate (((a1.g.Types.length:Nat):Int)).toNat (false:Bool)) ([]:List (q2a×Bool)) ([]:List q2a) l7)) (fun k5=>j2h F a1 k5 a1.g.Entries (List.replicate (((a1.g.Funcs.length:Nat):Int)).toNat (false:Bool)) ([]:List Int)) else none else none
def M156(F:Nat)(a1:q1b)(a2:q5c):Option (List Bool):=
 if a1.made=true then some (a2.made)
 else some ([]:List Bool)
def w7u(F:Nat)(a1:List Int):Option (List Int):=if a1.length<4611686018427387904 then some (v6a a1) else none
def w6u(F:Nat)(a1:List Int):Option (List Int):=if a1.length<=140737488355328 then some (cpt a1) else none
def z7w(F:Nat)(a1:q1b)(a2:q6c)(a3:(List Bool))(k5:(List Int)->Option (List Int)):List Int->(List Int)->Option (List Int)
  |[],l10=>k5 l10
  |x14::tl1,l10=>jn (fun(l13:List Int)=>z7w F a1 a2 a3 k5 tl1 l13) (fun k12=>y3a a3.length (fun b16=>if b16=true then (z3f F a1 a2 x14).bind fun y19=>if (l10++([y19]:List Int)).length*8<=140737488355328 then k12 (l10++([y19]:List Int)) else none
 else (idx a3 x14).bind fun x22=>jn (fun(l25:List Int)=>k12 l25) (fun k24=>if x22=true then (z3f F a1 a2 x14).bind fun y27=>if (l10++([y27]:List Int)).length*8<=140737488355328 then k24 (l10++([y27]:List Int)) else none
 else k24 l10)))
def M92(F:Nat)(a1:q1b)(a2:q6c)(a3:(List Bool)):Option (List Int):=
 if (a2.Kind==1)=true then some ([((q6b a1.funcs a2.Target).getD 0)]:List Int)
 else jn (fun(l6:List Int)=>(w7u F l6).bind fun y31=>if y31.length=l6.length then (w6u F y31).bind fun y34=>some y34 else none) (fun k5=>z7w F a1 a2 a3 k5 ((q6b a1.fitting a2.Target).getD ([]:(List Int))) ([]:List Int))
def q8x(F:Nat)(a1:q1b)(a2:q6c)(k4:(List Int)->Option (List Int)):List Int->(List Int)->Option (List Int)
 |[],l9=>k4 l9
 |x11::tl1,l9=>(z3f F a1 a2 x11).bind fun y13=>if (l9++([y13]:List Int)).length*8<=140737488355328 then q8x F a1 a2 k4 tl1 (l9++([y13]:List Int)) else none
def j0h(F:Nat)(a1:q1b)(a2:q6c):Option (List Int):=
 if (a2.Kind==1)=true then some ([((q6b a1.funcs a2.Target).getD 0)]:List Int)
 else jn (fun(l5:List Int)=>(w7u F l5).bind fun y17=>if y17.length=l5.length then (w6u F y17).bind fun y20=>some y20 else none) (fun k4=>q8x F a1 a2 k4 ((q6b a1.fitting a2.Target).getD ([]:(List Int))) ([]:List Int))
def z4w(F:Nat)(x89:Int)(k94:(List Int)->(List Int)->Option (List Int)):List Int->(List Int)->(List Int)->Option (List Int)
  |[],l101,l102=>k94 l101 l102
  |x104::tl7,l101,l102=>(idx l101 x104).bind fun x106=>jn (fun(l109:List Int) (l110:List Int)=>z4w F x89 k94 tl7 l109 l110) (fun k108=>if (decide (x106<0))=true then (idx l101 x89).bind fun x112=>(idx l101 x104).bind fun x114=>if (l102++([x104]:List Int)).length*8<=140737488355328 then k108 (l101.set x104.toNat (w64 (x112+1))) (l102++([x104]:List Int)) else none
 else k108 l101 l102)
def z1f(F:Nat)(l6:List (List Int))(k79:(List Int)->Option (List Int)):Nat->(List Int)->(List Int)->Option (List Int)
 |0,_,_=>none
 |n+1,l83,l84=>if (decide (((l84.length:Nat):Int)>0))=true then jn (fun(l87:List Int) (l88:List Int)=>z1f F l6 k79 n l87 l88) (fun k86=>(idx l84 0).bind fun x89=>if 1<=l84.length then (idx l6 x89).bind fun x92=>jn (fun(l95:List Int) (l96:List Int)=>k86 l95 l96) (fun k94=>z4w F x89 k94 x92 l83 (l84.drop 1)) else none)
 else k79 l83
def z2r(F:Nat)(k67:(List Int)->Option (List Int)):Nat->Int->(List Int)->Option (List Int)
 |0,n71,l72=>k67 l72
 |tl5+1,n71,l72=>(idx l72 n71).bind fun x74=>z2r F k67 tl5 (n71+1) (l72.set n71.toNat (-1))
def z3r(F:Nat)(n9:Int)(k36:(List (List Int))->Option (List Int)):List Int->(List (List Int))->Option (List Int)
 |[],l41=>k36 l41
 |x43::tl3,l41=>(idx l41 x43).bind fun x45=>if (x45++([n9]:List Int)).length*8<=140737488355328 then z3r F n9 k36 tl3 (l41.set x43.toNat (x45++([n9]:List Int))) else none
def j6g(F:Nat)(n9:Int)(k51:(List (List Int))->Option (List Int)):List Int->(List (List Int))->Option (List Int)
 |[],l56=>k51 l56
 |x58::tl4,l56=>(idx l56 x58).bind fun x60=>if (x60++([n9]:List Int)).length*8<=140737488355328 then j6g F n9 k51 tl4 (l56.set x58.toNat (x60++([n9]:List Int))) else none
def z5w(F:Nat)(a1:q1b)(a2:q5c)(n9:Int)(k19:(List (List Int))->Option (List Int)):List q6c->(List (List Int))->Option (List Int)
  |[],l24=>k19 l24
  |x28::tl2,l24=>jn (fun(l27:List (List Int))=>z5w F a1 a2 n9 k19 tl2 l27) (fun k26=>jn (fun(l31:List (List Int))=>k26 l31) (fun k30=>if ((q6b a1.on x28.Feature).getD false)=true then if a1.made=true then (M92 F a1 x28 a2.made).bind fun y34=>jn (fun(l37:List (List Int))=>k30 l37) (fun k36=>z3r F n9 k36 y34 l24)
 else (j0h F a1 x28).bind fun y49=>jn (fun(l52:List (List Int))=>k30 l52) (fun k51=>j6g F n9 k51 y49 l24)
 else k30 l24))
def z6w(F:Nat)(a1:q1b)(a2:q5c)(k5:(List (List Int))->Option (List Int)):List q5e->Int->(List (List Int))->Option (List Int)
  |[],n9,l10=>k5 l10
  |x14::tl1,n9,l10=>jn (fun(l13:List (List Int))=>z6w F a1 a2 k5 tl1 (n9+1) l13) (fun k12=>(idx a2.funcs n9).bind fun x16=>if (!x16)=true then k12 l10
 else jn (fun(l20:List (List Int))=>k12 l20) (fun k19=>z5w F a1 a2 n9 k19 x14.Calls l10))
def M94(F:Nat)(a1:q1b)(a2:q5c)(a3:Int):Option (List Int):=
 if 0<=((a1.g.Funcs.length:Nat):Int)/\((24:Nat):Int)*((a1.g.Funcs.length:Nat):Int)<=140737488355328/\((a1.g.Funcs.length:Nat):Int)<=140737488355328 then jn (fun(l6:List (List Int))=>if 0<=((a1.g.Funcs.length:Nat):Int)/\((8:Nat):Int)*((a1.g.Funcs.length:Nat):Int)<=140737488355328/\((a1.g.Funcs.length:Nat):Int)<=140737488355328 then jn (fun(l68:List Int)=>(idx l68 a3).bind fun x77=>jn (fun(l80:List Int)=>some l80) (fun k79=>z1f F l6 k79 F (l68.set a3.toNat 0) ([a3]:List Int))) (fun k67=>z2r F k67 (((((List.replicate (((a1.g.Funcs.length:Nat):Int)).toNat (0:Int)).length:Nat):Int):Int).toNat) 0 (List.replicate (((a1.g.Funcs.length:Nat):Int)).toNat (0:Int))) else none) (fun k5=>z6w F a1 a2 k5 a1.g.Funcs 0 (List.replicate (((a1.g.Funcs.length:Nat):Int)).toNat (([]:(List Int)):(List Int)))) else none
def z1l(F:Nat)(a1:q1b)(a3:(List Int))(a4:Int)(n9:Int)(x12:q6c)(k18:Option (q5j×q6c×Int)):List Int->Option (q5j×q6c×Int)
  |[]=>k18
  |x22::tl2=>(idx a3 x22).bind fun x24=>(idx a3 a4).bind fun x26=>if (x24==(w64 (x26 - 1)))=true then (idx a1.g.Funcs a4).bind fun x29=>(idx a1.g.Funcs x22).bind fun x31=>some ((q5j.mk (q2n.mk x29.Name n9) x31.Name),x12,x22)
 else z1l F a1 a3 a4 n9 x12 k18 tl2
def j4g(F:Nat)(a1:q1b)(a3:(List Int))(a4:Int)(n9:Int)(x12:q6c)(k36:Option (q5j×q6c×Int)):List Int->Option (q5j×q6c×Int)
  |[]=>k36
  |x40::tl3=>(idx a3 x40).bind fun x42=>(idx a3 a4).bind fun x44=>if (x42==(w64 (x44 - 1)))=true then (idx a1.g.Funcs a4).bind fun x47=>(idx a1.g.Funcs x40).bind fun x49=>some ((q5j.mk (q2n.mk x47.Name n9) x49.Name),x12,x40)
 else j4g F a1 a3 a4 n9 x12 k36 tl3
def z1r(F:Nat)(a1:q1b)(a2:q5c)(a3:(List Int))(a4:Int)(k7:Option (q5j×q6c×Int)):List q6c->Int->Option (q5j×q6c×Int)
  |[],n9=>k7
  |x12::tl1,n9=>jn (z1r F a1 a2 a3 a4 k7 tl1 (n9+1)) (fun k11=>if (!((q6b a1.on x12.Feature).getD false))=true then k11
 else if a1.made=true then (M92 F a1 x12 a2.made).bind fun y16=>jn (k11) (fun k18=>z1l F a1 a3 a4 n9 x12 k18 y16)
 else (j0h F a1 x12).bind fun y34=>jn (k11) (fun k36=>j4g F a1 a3 a4 n9 x12 k36 y34))
def M95(F:Nat)(a1:q1b)(a2:q5c)(a3:(List Int))(a4:Int):Option (q5j×q6c×Int):=
 (idx a1.g.Funcs a4).bind fun x5=>jn (some ((q5j.mk (q2n.mk ([]:B8) 0) ([]:B8)),(q6c.mk 0 ([]:B8) ([]:B8) ([]:B8)),a4)) (fun k7=>z1r F a1 a2 a3 a4 k7 x5.Calls 0)
def j3g(F:Nat)(a1:q1b)(a2:q5c)(a3:q6c)(a4:Int)(k5:Option B8):List Int->Option B8
  |[]=>k5
  |x10::tl1=>jn (j3g F a1 a2 a3 a4 k5 tl1 ) (fun k9=>(idx a2.made x10).bind fun x12=>if x12=true then (z3f F a1 a3 x10).bind fun y15=>if (y15==a4)=true then (idx a1.g.Types x10).bind fun x18=>some (x18.Name)
 else k9
 else k9)
def M96(F:Nat)(a1:q1b)(a2:q5c)(a3:q6c)(a4:Int):Option B8:=
 jn (some ([]:B8)) (fun k5=>j3g F a1 a2 a3 a4 k5 ((q6b a1.fitting a3.Target).getD ([]:(List Int))))
def j2g(F:Nat)(a2:q5c)(a3:B8)(k4:Option B8):List q5e->Int->Option B8
  |[],n6=>k4
  |x9::tl1,n6=>jn (j2g F a2 a3 k4 tl1 (n6+1)) (fun k8=>(idx a2.funcs n6).bind fun x11=>if x11=true then (M23 F x9.Makes a3).bind fun y14=>if y14=true then some (x9.Name)
 else k8
 else k8)
def M97(F:Nat)(a1:q1b)(a2:q5c)(a3:B8):Option B8:=
 jn (some ([]:B8)) (fun k4=>j2g F a2 a3 k4 a1.g.Funcs 0)
def M99(F:Nat)(a1:q0c)(a2:q0c):Option Int:=
 (M100 F a1.Type_ a2.Type_).bind fun y3=>some y3
def M98(F:Nat)(a1:List q0c):Option (List q0c):=w6i (fun x3 y4=>M99 F x3 y4) a1
def q5w(F:Nat)(x42:q5e)(l46:List q5j):List (B8×B8)->(List q0c)->Option (q3e×Bool×Int)
 |[],l69=>(M98 F l69).bind fun y73=>if y73.length=l69.length then some ((q3e.mk x42.Name l46 y73),true,0) else none
 |e70::l71,l69=>if (l69++([(q0c.mk e70.1 e70.2)]:List q0c)).length*32<=140737488355328 then q5w F x42 l46 l71 (l69++([(q0c.mk e70.1 e70.2)]:List q0c)) else none
def z4l(F:Nat)(y5:((Option q1b)×Int×Int))(x8:q1b)(x12:q5c)(y17:(List Int))(k44:(List (B8×B8))->(List q5j)->Option (q3e×Bool×Int)):Nat->Int->(List (B8×B8))->(List q5j)->Option (q3e×Bool×Int)
 |0,_,_,_=>none
 |n+1,n50,m51,l52=>if (n50 != (y5.2.1))=true then (M95 F x8 x12 y17 n50).bind fun y54=>if x8.made=true then jn (fun(m58:List (B8×B8))=>if (l52++([(y54.1)]:List q5j)).length*40<=140737488355328 then z4l F y5 x8 x12 y17 k44 n (y54.2.2) m58 (l52++([(y54.1)]:List q5j)) else none) (fun k57=>if ((y54.2.1).Kind==2)=true then (M96 F x8 x12 (y54.2.1) (y54.2.2)).bind fun y60=>(M97 F x8 x12 y60).bind fun y62=>k57 (q0g m51 y60 y62)
 else k57 m51)
 else if (l52++([(y54.1)]:List q5j)).length*40<=140737488355328 then z4l F y5 x8 x12 y17 k44 n (y54.2.2) m51 (l52++([(y54.1)]:List q5j)) else none
 else k44 m51 l52
def z7r(F:Nat)(x8:q1b)(y17:(List Int))(k19:Int->Option (q3e×Bool×Int)):List B8->Int->Option (q3e×Bool×Int)
  |[],n23=>k19 n23
  |x28::tl1,n23=>jn (fun(n27:Int)=>z7r F x8 y17 k19 tl1 n27) (fun k26=>(idx y17 ((q6b x8.funcs x28).getD 0)).bind fun x30=>if (decide (x30>=0))=true then if (decide (n23<0))=true then k26 ((q6b x8.funcs x28).getD 0)
 else (idx y17 ((q6b x8.funcs x28).getD 0)).bind fun x34=>(idx y17 n23).bind fun x36=>jn (fun(n39:Int)=>k26 n39) (fun k38=>if (decide (x34<x36))=true then k38 ((q6b x8.funcs x28).getD 0)
 else k38 n23)
 else k26 n23)
def M28(F:Nat)(a1:q7c)(a2:Int)(a3:(List B8))(a4:B8):Option (q3e×Bool×Int):=
 (M90 F a1 a2 a3 a4).bind fun y5=>if ((y5.2.2) != 0)=true then some ((q3e.mk ([]:B8) ([]:List q5j) ([]:List q0c)),false,(y5.2.2))
 else ((y5.1)).bind fun x8=>(M89 F x8 (-1)).bind fun y10=>(y10).bind fun x12=>(idx x12.funcs (y5.2.1)).bind fun x14=>if (!x14)=true then some ((q3e.mk ([]:B8) ([]:List q5j) ([]:List q0c)),false,0)
 else (M94 F x8 x12 (y5.2.1)).bind fun y17=>jn (fun(n20:Int)=>(idx a1.Funcs n20).bind fun x42=>jn (fun(m45:List (B8×B8)) (l46:List q5j)=>q5w F x42 l46 m45 ([]:List q0c)) (fun k44=>z4l F y5 x8 x12 y17 k44 F n20 ([]:List (B8×B8)) ([]:List q5j))) (fun k19=>z7r F x8 y17 k19 a1.Entries (-1))
def j8h(F:Nat)(k35:(List (B8×Bool))->Option q4d):List q5e->(List (B8×Bool))->Option q4d
 |[],m40=>k35 m40
 |x42::tl4,m40=>j8h F k35 tl4 (q0g m40 x42.Name true)
def j9h(F:Nat)(k25:(List (B8×Bool))->Option q4d):List q7i->(List (B8×Bool))->Option q4d
 |[],m30=>k25 m30
 |x32::tl3,m30=>j9h F k25 tl3 (q0g m30 x32.Name true)
def j0i(F:Nat)(x11:q0f)(k13:(List (B8×(List (B8×Bool))))->Option q4d):List B8->(List (B8×(List (B8×Bool))))->Option q4d
 |[],m18=>k13 m18
 |x20::tl2,m18=>if (q6b m18 x11.Name).isSome=true then j0i F x11 k13 tl2 (q0g m18 x11.Name (q0g ((q6b m18 x11.Name).getD []) x20 true)) else none
def j1i(F:Nat)(k2:(List (B8×(List (B8×Bool))))->Option q4d):List q0f->(List (B8×(List (B8×Bool))))->Option q4d
 |[],m7=>k2 m7
 |x11::tl1,m7=>jn (fun(m10:List (B8×(List (B8×Bool))))=>j1i F k2 tl1 m10) (fun k9=>jn (fun(m14:List (B8×(List (B8×Bool))))=>k9 m14) (fun k13=>j0i F x11 k13 x11.Methods (q0g m7 x11.Name ([]:List (B8×Bool)))))
def M72(F:Nat)(a1:q7c):Option q4d:=
 jn (fun(m3:List (B8×(List (B8×Bool))))=>jn (fun(m26:List (B8×Bool))=>jn (fun(m36:List (B8×Bool))=>some (q4d.mk m3 m26 m36)) (fun k35=>j8h F k35 a1.Funcs ([]:List (B8×Bool)))) (fun k25=>j9h F k25 a1.Types ([]:List (B8×Bool)))) (fun k2=>j1i F k2 a1.Ifaces ([]:List (B8×(List (B8×Bool)))))
def j6h(F:Nat)(a1:B8)(k2:Option Bool):Nat->Int->Option Bool
  |0,n4=>k2
  |tl1+1,n4=>(idx a1 n4).bind fun c6=>if (decide ((c6.toNat:Int)<33))=true then some false
 else (idx a1 n4).bind fun c9=>if (decide ((c9.toNat:Int)>126))=true then some false
 else (idx a1 n4).bind fun c12=>if ((c12.toNat:Int)==35)=true then some false
 else j6h F a1 k2 tl1 (n4+1)
def M82(F:Nat)(a1:B8):Option Bool:=
 jn (if (decide ((a1.length:Int)>=1))=true then some (decide ((a1.length:Int)<=100))
 else some false) (fun k2=>if (a1.length:Int)<=9223372036854775807 then j6h F a1 k2 (((a1.length:Int):Int).toNat) 0 else none)
def w2j(F:Nat)(a1:(List B8))(a2:Int):Option Int:=
 if (decide (a2>0))=true then (idx a1 a2).bind fun x4=>(idx a1 (w64 (a2 - 1))).bind fun x6=>if (Op.bytesLess x4 x6||x4==x6)=true then some 10
 else some 0
 else some 0
def z1g(F:Nat)(x10:q0f)(k18:Option Int):List B8->Int->Option Int
  |[],n20=>k18
  |x22::tl2,n20=>(M82 F x22).bind fun y24=>if (!y24)=true then some 8
 else (w2j F x10.Methods n20).bind fun y27=>if (y27 != 0)=true then some y27
 else z1g F x10 k18 tl2 (n20+1)
def z2c(F:Nat)(k2:Option Int):List q0f->B8->Option Int
  |[],s5=>k2
  |x10::tl1,s5=>jn (fun(s9:B8)=>z2c F k2 tl1 s9) (fun k8=>(M82 F x10.Name).bind fun y12=>if (!y12)=true then some 8
 else if (Op.bytesLess x10.Name s5||x10.Name==s5)=true then some 10
 else if (((x10.Methods.length:Nat):Int)==0)=true then some 13
 else if (decide (((x10.Methods.length:Nat):Int)>200))=true then some 3
 else jn (k8 x10.Name) (fun k18=>z1g F x10 k18 x10.Methods 0))
def M136(F:Nat)(a1:q8b):Option Int:=
 jn (some 0) (fun k2=>z2c F k2 a1.g.Ifaces ([]:B8))
def z9f(F:Nat)(a1:q8b)(k17:Option Int):List q1k->B8->Option Int
  |[],s20=>k17
  |x23::tl2,s20=>(M82 F x23.Name).bind fun y25=>jn (z9f F a1 k17 tl2 x23.Name) (fun k27=>if (!y25)=true then some 8
 else if (Op.bytesLess x23.Name s20||x23.Name==s20)=true then some 10
 else if (!a1.loose)=true then if (!((q6b a1.n.funcs x23.Func).getD false))=true then some 4
 else k27
 else k27)
def z0g(F:Nat)(a1:q8b)(k2:Option Int):List q7i->B8->Option Int
  |[],s5=>k2
  |x10::tl1,s5=>jn (fun(s9:B8)=>z0g F a1 k2 tl1 s9) (fun k8=>(M82 F x10.Name).bind fun y12=>if (!y12)=true then some 8
 else if (Op.bytesLess x10.Name s5||x10.Name==s5)=true then some 10
 else if (decide (((x10.Methods.length:Nat):Int)>200))=true then some 3
 else jn (k8 x10.Name) (fun k17=>z9f F a1 k17 x10.Methods ([]:B8)))
def M137(F:Nat)(a1:q8b):Option Int:=
 jn (some 0) (fun k2=>z0g F a1 k2 a1.g.Types ([]:B8))
def M187(F:Nat)(a1:q8b)(a2:q6c):Option Int:=
 jn (if (!(a2.Feature==([]:B8)))=true then (M82 F a2.Feature).bind fun y15=>if (!y15)=true then some 8
 else some 0
 else some 0) (fun k3=>if (a2.Kind==1)=true then if (!a1.loose)=true then if (!((q6b a1.n.funcs a2.Target).getD false))=true then some 4
 else if (!(a2.Method==([]:B8)))=true then some 2
 else k3
 else if (!(a2.Method==([]:B8)))=true then some 2
 else k3
 else if (a2.Kind==2)=true then if ((q6b a1.n.ifaces a2.Target).isSome)=true then if (!a1.loose)=true then if (!((q6b ((q6b a1.n.ifaces a2.Target).getD []) a2.Method).getD false))=true then some 4
 else k3
 else k3
 else if (!a1.loose)=true then some 4
 else k3
 else some 7)
def z7f(F:Nat)(a1:q8b)(x10:q5e)(k30:Option Int):List B8->Int->Option Int
  |[],n32=>k30
  |x35::tl3,n32=>jn (z7f F a1 x10 k30 tl3 (n32+1)) (fun k34=>if (!a1.loose)=true then if (!((q6b a1.n.types x35).getD false))=true then some 4
 else (w2j F x10.Makes n32).bind fun y39=>if (y39 != 0)=true then some y39
 else k34
 else (w2j F x10.Makes n32).bind fun y42=>if (y42 != 0)=true then some y42
 else k34)
def z8f(F:Nat)(a1:q8b)(k20:Option Int):List q6c->Option Int
  |[]=>k20
  |x24::tl2=>(M187 F a1 x24).bind fun y26=>if (y26 != 0)=true then some y26
 else z8f F a1 k20 tl2
def z1c(F:Nat)(a1:q8b)(k2:Option Int):List q5e->B8->Option Int
  |[],s5=>k2
  |x10::tl1,s5=>jn (fun(s9:B8)=>z1c F a1 k2 tl1 s9) (fun k8=>(M82 F x10.Name).bind fun y12=>if (!y12)=true then some 8
 else if (Op.bytesLess x10.Name s5||x10.Name==s5)=true then some 10
 else (M82 F x10.Component).bind fun y16=>if (!y16)=true then some 8
 else if (decide (((x10.Calls.length:Nat):Int)>200))=true then some 3
 else jn (jn (k8 x10.Name) (fun k30=>z7f F a1 x10 k30 x10.Makes 0)) (fun k20=>z8f F a1 k20 x10.Calls))
def M138(F:Nat)(a1:q8b):Option Int:=
 jn (some 0) (fun k2=>z1c F a1 k2 a1.g.Funcs ([]:B8))
def z3x(F:Nat)(a1:q8b)(k14:Option Int):List B8->Int->Option Int
  |[],n16=>k14
  |x19::tl1,n16=>jn (z3x F a1 k14 tl1 (n16+1)) (fun k18=>if (!a1.loose)=true then if (!((q6b a1.n.funcs x19).getD false))=true then some 4
 else (w2j F a1.g.Entries n16).bind fun y23=>if (y23 != 0)=true then some y23
 else k18
 else (w2j F a1.g.Entries n16).bind fun y26=>if (y26 != 0)=true then some y26
 else k18)
def M73(F:Nat)(a1:q8b):Option Int:=
 if (decide (((a1.g.Ifaces.length:Nat):Int)>200))=true then some 3
 else if (decide (((a1.g.Types.length:Nat):Int)>500))=true then some 3
 else if (decide (((a1.g.Funcs.length:Nat):Int)>3000))=true then some 3
 else (M136 F a1).bind fun y5=>if (y5 != 0)=true then some y5
 else (M137 F a1).bind fun y8=>if (y8 != 0)=true then some y8
 else (M138 F a1).bind fun y11=>if (y11 != 0)=true then some y11
 else jn (some 0) (fun k14=>z3x F a1 k14 a1.g.Entries 0)
def M18(F:Nat)(a1:q7c):Option Int:=
 (M72 F a1).bind fun y2=>(M73 F (q8b.mk a1 y2 false)).bind fun y4=>some y4
def z2x(F:Nat)(a1:(List B8))(k3:Option Int):List B8->Int->Option Int
  |[],n5=>k3
  |x7::tl1,n5=>(M82 F x7).bind fun y9=>if (!y9)=true then some 8
 else (w2j F a1 n5).bind fun y12=>if (y12 != 0)=true then some y12
 else z2x F a1 k3 tl1 (n5+1)
def M81(F:Nat)(a1:(List B8)):Option Int:=
 if (decide (((a1.length:Nat):Int)>30))=true then some 3
 else jn (some 0) (fun k3=>z2x F a1 k3 a1 0)
def z4n(F:Nat)(a2:B8)(k3:Option (q5e×Bool)):List q5e->Option (q5e×Bool)
  |[]=>k3
  |x7::tl1=>if (x7.Name==a2)=true then some (x7,true)
 else z4n F a2 k3 tl1
def M125(F:Nat)(a1:q7c)(a2:B8):Option (q5e×Bool):=
 jn (some ((q5e.mk ([]:B8) ([]:B8) ([]:List q6c) ([]:List B8)),false)) (fun k3=>z4n F a2 k3 a1.Funcs)
def z3v(F:Nat)(a1:q7c)(k13:Option Int):List B8->Option Int
  |[]=>k13
  |x17::tl1=>(M125 F a1 x17).bind fun y19=>if (!(y19.2))=true then some 4
 else z3v F a1 k13 tl1
def z2v(F:Nat)(a1:q7c)(k23:Option Int):List B8->Option Int
  |[]=>k23
  |x27::tl2=>(M125 F a1 x27).bind fun y29=>if (!(y29.2))=true then some 4
 else z2v F a1 k23 tl2
def w3j(F:Nat)(a1:q7c)(a2:Int)(a3:(List B8))(a4:(List B8)):Option Int:=
 (M18 F a1).bind fun y5=>if (y5 != 0)=true then some y5
 else (M81 F a3).bind fun y8=>if (y8 != 0)=true then some y8
 else if (a2 != 1)=true then if (a2 != 2)=true then some 7
 else jn (some 0) (fun k13=>z3v F a1 k13 a4)
 else jn (some 0) (fun k23=>z2v F a1 k23 a4)
def z9m(F:Nat)(a2:B8)(k3:Option (q0f×Bool)):List q0f->Option (q0f×Bool)
  |[]=>k3
  |x7::tl1=>if (x7.Name==a2)=true then some (x7,true)
 else z9m F a2 k3 tl1
def M190(F:Nat)(a1:q7c)(a2:B8):Option (q0f×Bool):=
 jn (some ((q0f.mk ([]:B8) ([]:List B8)),false)) (fun k3=>z9m F a2 k3 a1.Ifaces)
def z8m(F:Nat)(a2:B8)(k3:Option (B8×Bool)):List q1k->Option (B8×Bool)
  |[]=>k3
  |x7::tl1=>if (x7.Name==a2)=true then some (x7.Func,true)
 else z8m F a2 k3 tl1
def M191(F:Nat)(a1:q7i)(a2:B8):Option (B8×Bool):=
 jn (some (([]:B8),false)) (fun k3=>z8m F a2 k3 a1.Methods)
def z7m(F:Nat)(a1:q7i)(k3:Option Bool):List B8->Option Bool
  |[]=>k3
  |x7::tl1=>(M191 F a1 x7).bind fun y9=>if (!(y9.2))=true then some false
 else z7m F a1 k3 tl1
def M192(F:Nat)(a1:q7i)(a2:q0f):Option Bool:=
 jn (some true) (fun k3=>z7m F a1 k3 a2.Methods)
def z5f(F:Nat)(a2:q6c)(y4:(q0f×Bool))(k6:(List q1a)->Option (List q1a)):List q7i->(List q1a)->Option (List q1a)
  |[],l11=>k6 l11
  |x15::tl1,l11=>jn (fun(l14:List q1a)=>z5f F a2 y4 k6 tl1 l14) (fun k13=>(M191 F x15 a2.Method).bind fun y17=>if (y17.2)=true then (M192 F x15 (y4.1)).bind fun y20=>jn (fun(l23:List q1a)=>k13 l23) (fun k22=>if y20=true then if (l11++([(q1a.mk x15.Name (y17.1))]:List q1a)).length*32<=140737488355328 then k22 (l11++([(q1a.mk x15.Name (y17.1))]:List q1a)) else none
 else k22 l11)
 else k13 l11)
def M146(F:Nat)(a1:q7c)(a2:q6c):Option (List q1a):=
 if (a2.Kind==1)=true then some ([(q1a.mk ([]:B8) a2.Target)]:List q1a)
 else (M190 F a1 a2.Target).bind fun y4=>jn (fun(l7:List q1a)=>some l7) (fun k6=>z5f F a2 y4 k6 a1.Types ([]:List q1a))
def z9w(F:Nat)(a1:q7c)(m4:List (B8×Bool))(x29:q5e)(k31:(List (q6c×(List q1a)))->(List (B8×(List q0a)))->Option q2b):List q6c->Int->(List (q6c×(List q1a)))->(List (B8×(List q0a)))->Option q2b
  |[],n37,m38,m39=>k31 m38 m39
  |x44::tl3,n37,m38,m39=>jn (fun(m42:List (q6c×(List q1a))) (m43:List (B8×(List q0a)))=>z9w F a1 m4 x29 k31 tl3 (n37+1) m42 m43) (fun k41=>if (!((q6b m4 x44.Feature).getD false))=true then k41 m38 m39
 else jn (fun(l48:List q1a) (m49:List (q6c×(List q1a)))=>if (((q6b m39 x29.Name).getD [])++([(q0a.mk (q2n.mk x29.Name n37) l48)]:List q0a)).length*48<=140737488355328 then k41 m49 (q0g m39 x29.Name (((q6b m39 x29.Name).getD [])++([(q0a.mk (q2n.mk x29.Name n37) l48)]:List q0a))) else none) (fun k47=>if (!((q6b m38 (q6c.mk x44.Kind x44.Target x44.Method ([]:B8))).isSome))=true then (M146 F a1 x44).bind fun y51=>k47 y51 (q0g m38 (q6c.mk x44.Kind x44.Target x44.Method ([]:B8)) y51)
 else k47 ((q6b m38 (q6c.mk x44.Kind x44.Target x44.Method ([]:B8))).getD ([]:(List q1a))) m38))
def z0x(F:Nat)(a1:q7c)(m4:List (B8×Bool))(k13:(List (B8×(List q0a)))->(List (B8×q5e))->Option q2b):List q5e->(List (q6c×(List q1a)))->(List (B8×(List q0a)))->(List (B8×q5e))->Option q2b
 |[],m21,m22,m23=>k13 m22 m23
 |x29::tl2,m21,m22,m23=>jn (fun(m26:List (q6c×(List q1a))) (m27:List (B8×(List q0a))) (m28:List (B8×q5e))=>z0x F a1 m4 k13 tl2 m26 m27 m28) (fun k25=>jn (fun(m32:List (q6c×(List q1a))) (m33:List (B8×(List q0a)))=>k25 m32 m33 (q0g m23 x29.Name x29)) (fun k31=>z9w F a1 m4 x29 k31 x29.Calls 0 m21 m22))
def j5h(F:Nat)(k3:(List (B8×Bool))->Option q2b):List B8->(List (B8×Bool))->Option q2b
 |[],m8=>k3 m8
 |x10::tl1,m8=>j5h F k3 tl1 (q0g m8 x10 true)
def M83(F:Nat)(a1:q7c)(a2:(List B8)):Option q2b:=
 jn (fun(m4:List (B8×Bool))=>jn (fun(m14:List (B8×(List q0a))) (m15:List (B8×q5e))=>some (q2b.mk a1 m14 m15)) (fun k13=>z0x F a1 m4 k13 a1.Funcs ([]:List (q6c×(List q1a))) ([]:List (B8×(List q0a))) ([]:List (B8×q5e)))) (fun k3=>j5h F k3 a2 (q0g ([]:List (B8×Bool)) ([]:B8) true))
def z0n(F:Nat)(a2:Int)(a3:q5a)(k46:(List (B8×Bool))->Option q5a):List q1a->(List (B8×Bool))->Option q5a
  |[],m51=>k46 m51
  |x55::tl5,m51=>jn (fun(m54:List (B8×Bool))=>z0n F a2 a3 k46 tl5 m54) (fun k53=>if (a2==1)=true then k53 (q4m (q0g m51 x55.to true))
 else if (x55.typ==([]:B8))=true then k53 (q4m (q0g m51 x55.to true))
 else jn (fun(m60:List (B8×Bool))=>k53 m60) (fun k59=>if ((q6b a3.made x55.typ).getD false)=true then k59 (q4m (q0g m51 x55.to true))
 else k59 m51))
def z1n(F:Nat)(a2:Int)(a3:q5a)(k35:(List (B8×Bool))->Option q5a):List q0a->(List (B8×Bool))->Option q5a
 |[],m40=>k35 m40
 |x44::tl4,m40=>jn (fun(m43:List (B8×Bool))=>z1n F a2 a3 k35 tl4 m43) (fun k42=>jn (fun(m47:List (B8×Bool))=>k42 m47) (fun k46=>z0n F a2 a3 k46 x44.aims m40))
def z2n(F:Nat)(k25:(List (B8×Bool))->Option q5a):List B8->(List (B8×Bool))->Option q5a
 |[],m30=>k25 m30
 |x32::tl3,m30=>z2n F k25 tl3 (q4m (q0g m30 x32 true))
def z9b(F:Nat)(a1:q2b)(a2:Int)(a3:q5a):List (B8×Bool)->(List (B8×Bool))->(List (B8×Bool))->Option q5a
 |[],m18,m19=>some (q5a.mk m18 m19)
 |e20::l21,m18,m19=>jn (fun(m23:List (B8×Bool)) (m24:List (B8×Bool))=>z9b F a1 a2 a3 l21 m23 m24) (fun k22=>jn (fun(m26:List (B8×Bool))=>jn (fun(m36:List (B8×Bool))=>k22 m36 m26) (fun k35=>z1n F a2 a3 k35 ((q6b a1.links e20.1).getD ([]:(List q0a))) (q4m (q0g m18 e20.1 true)))) (fun k25=>z2n F k25 (((q6b a1.funcs e20.1).getD (q5e.mk ([]:B8) ([]:B8) ([]:(List q6c)) ([]:(List B8)))).Makes) m19))
def z3n(F:Nat)(k4:(List (B8×Bool))->Option q5a):List B8->(List (B8×Bool))->Option q5a
 |[],m9=>k4 m9
 |x11::tl1,m9=>z3n F k4 tl1 (q4m (q0g m9 x11 true))
def M159(F:Nat)(a1:q2b)(a2:Int)(a3:q5a):Option q5a:=
 jn (fun(m5:List (B8×Bool))=>z9b F a1 a2 a3 a3.reached m5 ([]:List (B8×Bool))) (fun k4=>z3n F k4 a1.g.Entries ([]:List (B8×Bool)))
def z6h(F:Nat)(a1:q2b)(a2:Int):Nat->(List (B8×Bool))->(List (B8×Bool))->Option q5a
 |0,_,_=>none
 |n+1,m5,m6=>(M159 F a1 a2 (q5a.mk m5 m6)).bind fun y7=>if (((y7.reached.length:Nat):Int)==((m5.length:Nat):Int))=true then if (((y7.made.length:Nat):Int)==((m6.length:Nat):Int))=true then some y7
 else z6h F a1 a2 n y7.reached y7.made
 else z6h F a1 a2 n y7.reached y7.made
def M102(F:Nat)(a1:q2b)(a2:Int):Option q5a:=
 z6h F a1 a2 F ([]:List (B8×Bool)) ([]:List (B8×Bool))
def M160(F:Nat)(a1:Int)(a2:q5a)(a3:q1a):Option Bool:=
 if (a1==1)=true then some true
 else if (a3.typ==([]:B8))=true then some true
 else some ((q6b a2.made a3.typ).getD false)
def z4h(F:Nat)(a2:Int)(a3:q5a)(n7:Int)(m8:List (B8×Int))(k31:Bool->Option (List (B8×Int))):List q1a->Bool->Option (List (B8×Int))
  |[],b35=>k31 b35
  |x40::tl4,b35=>jn (fun(b39:Bool)=>z4h F a2 a3 n7 m8 k31 tl4 b39) (fun k38=>if b35=true then k38 true
 else if ((q6b m8 x40.to).isSome)=true then if (((q6b m8 x40.to).getD 0)==(w64 (n7 - 1)))=true then (M160 F a2 a3 x40).bind fun y45=>k38 y45
 else k38 false
 else k38 false)
def z5h(F:Nat)(a2:Int)(a3:q5a)(n7:Int)(m8:List (B8×Int))(k20:Bool->Option (List (B8×Int))):List q0a->Bool->Option (List (B8×Int))
 |[],b24=>k20 b24
 |x29::tl3,b24=>jn (fun(b28:Bool)=>z5h F a2 a3 n7 m8 k20 tl3 b28) (fun k27=>jn (fun(b32:Bool)=>k27 b32) (fun k31=>z4h F a2 a3 n7 m8 k31 x29.aims b24))
def z8n(F:Nat)(n7:Int)(k54:(List (B8×Int))->Option (List (B8×Int))):List B8->(List (B8×Int))->Option (List (B8×Int))
 |[],m59=>k54 m59
 |x61::tl5,m59=>z8n F n7 k54 tl5 (q4m (q0g m59 x61 n7))
def q5y(F:Nat)(a1:q2b)(a2:Int)(a3:q5a)(n7:Int)(m8:List (B8×Int))(k9:(List (B8×Int))->Option (List (B8×Int))):List (B8×Bool)->(List B8)->Option (List (B8×Int))
  |[],l13=>if (((l13.length:Nat):Int)==0)=true then some m8
 else jn (fun(m55:List (B8×Int))=>k9 m55) (fun k54=>z8n F n7 k54 l13 m8)
  |e15::l16,l13=>jn (fun(l18:List B8)=>q5y F a1 a2 a3 n7 m8 k9 l16 l18) (fun k17=>if ((q6b m8 e15.1).isSome)=true then k17 l13
 else jn (fun(b21:Bool)=>jn (fun(l50:List B8)=>k17 l50) (fun k49=>if b21=true then if (l13++([e15.1]:List B8)).length*16<=140737488355328 then k49 (l13++([e15.1]:List B8)) else none
 else k49 l13)) (fun k20=>z5h F a2 a3 n7 m8 k20 ((q6b a1.links e15.1).getD ([]:(List q0a))) false))
def z9n(F:Nat)(a1:q2b)(a2:Int)(a3:q5a):Nat->Int->(List (B8×Int))->Option (List (B8×Int))
 |0,_,_=>none
 |n+1,n7,m8=>jn (fun(m10:List (B8×Int))=>z9n F a1 a2 a3 n (w64 (n7+1)) m10) (fun k9=>q5y F a1 a2 a3 n7 m8 k9 a3.reached ([]:List B8))
def M103(F:Nat)(a1:q2b)(a2:Int)(a3:q5a)(a4:B8):Option (List (B8×Int)):=
 z9n F a1 a2 a3 F 1 (q0g ([]:List (B8×Int)) a4 0)
def z3h(F:Nat)(a2:Int)(a3:q5a)(a4:(List (B8×Int)))(a5:B8)(k13:B8->B8->Option (q5j×B8)):List q1a->B8->B8->Option (q5j×B8)
  |[],s19,s20=>k13 s19 s20
  |x26::tl2,s19,s20=>jn (fun(s24:B8) (s25:B8)=>z3h F a2 a3 a4 a5 k13 tl2 s24 s25) (fun k23=>if ((q6b a4 x26.to).isSome)=true then if (((q6b a4 x26.to).getD 0)==(w64 (((q6b a4 a5).getD 0) - 1)))=true then (M160 F a2 a3 x26).bind fun y30=>if y30=true then if (s19==([]:B8))=true then k23 x26.to x26.typ
 else jn (fun(s35:B8) (s36:B8)=>k23 s35 s36) (fun k34=>if (Op.bytesLess x26.to s19)=true then k34 x26.to x26.typ
 else k34 s19 s20)
 else k23 s19 s20
 else k23 s19 s20
 else k23 s19 s20)
def z4c(F:Nat)(a2:Int)(a3:q5a)(a4:(List (B8×Int)))(a5:B8)(k6:Option (q5j×B8)):List q0a->Option (q5j×B8)
  |[]=>k6
  |x11::tl1=>jn (z4c F a2 a3 a4 a5 k6 tl1 ) (fun k10=>jn (fun(s14:B8) (s15:B8)=>if (!(s14==([]:B8)))=true then some ((q5j.mk x11.site s14),s15)
 else k10) (fun k13=>z3h F a2 a3 a4 a5 k13 x11.aims ([]:B8) ([]:B8)))
def M104(F:Nat)(a1:q2b)(a2:Int)(a3:q5a)(a4:(List (B8×Int)))(a5:B8):Option (q5j×B8):=
 jn (some ((q5j.mk (q2n.mk ([]:B8) 0) ([]:B8)),([]:B8))) (fun k6=>z4c F a2 a3 a4 a5 k6 ((q6b a1.links a5).getD ([]:(List q0a))))
def q9n(F:Nat)(k9:(List B8)->Option (List B8)):Nat->(List B8)->(List B8)->(List B8)->Option (List B8)
 |0,_,_,_=>none
 |n+1,l14,l15,l16=>if (decide (((l14.length:Nat):Int)>0))=true then if (((l15.length:Nat):Int)==0)=true then (idx l14 0).bind fun x19=>if (l16++([x19]:List B8)).length*16<=140737488355328 then if 1<=l14.length then q9n F k9 n (l14.drop 1) l15 (l16++([x19]:List B8)) else none else none
 else (idx l14 0).bind fun x23=>(idx l15 0).bind fun x25=>jn (fun(l28:List B8) (l29:List B8) (l30:List B8)=>q9n F k9 n l28 l29 l30) (fun k27=>if (Op.bytesLess x23 x25||x23==x25)=true then (idx l14 0).bind fun x32=>if (l16++([x32]:List B8)).length*16<=140737488355328 then if 1<=l14.length then k27 (l14.drop 1) l15 (l16++([x32]:List B8)) else none else none
 else (idx l15 0).bind fun x36=>if (l16++([x36]:List B8)).length*16<=140737488355328 then if 1<=l15.length then k27 l14 (l15.drop 1) (l16++([x36]:List B8)) else none else none)
 else if (decide (((l15.length:Nat):Int)>0))=true then if (((l15.length:Nat):Int)==0)=true then (idx l14 0).bind fun x42=>if (l16++([x42]:List B8)).length*16<=140737488355328 then if 1<=l14.length then q9n F k9 n (l14.drop 1) l15 (l16++([x42]:List B8)) else none else none
 else (idx l15 0).bind fun x46=>if (l16++([x46]:List B8)).length*16<=140737488355328 then if 1<=l15.length then q9n F k9 n l14 (l15.drop 1) (l16++([x46]:List B8)) else none else none
 else k9 l16
def v8r(R161:(List B8)->Option (List B8))(F:Nat)(a1:(List B8)):Option (List B8):=
 if (decide (((a1.length:Nat):Int)<2))=true then some a1
 else if 0<=(w64 (Int.tdiv ((a1.length:Nat):Int) 2))/\(w64 (Int.tdiv ((a1.length:Nat):Int) 2)).toNat<=a1.length then (R161 (a1.take (w64 (Int.tdiv ((a1.length:Nat):Int) 2)).toNat)).bind fun y4=>if 0<=(w64 (Int.tdiv ((a1.length:Nat):Int) 2))/\(w64 (Int.tdiv ((a1.length:Nat):Int) 2)).toNat<=a1.length then (R161 (a1.drop (w64 (Int.tdiv ((a1.length:Nat):Int) 2)).toNat)).bind fun y7=>jn (fun(l10:List B8)=>some l10) (fun k9=>q9n F k9 F y4 y7 ([]:List B8)) else none else none
def w1j:Nat->(List B8)->Option (List B8)
 |0,_=>none
 |F+1,a1=>v8r (w1j F) F a1
def q4y(F:Nat):List (B8×Bool)->(List B8)->Option (List B8)
 |[],l4=>(w1j F l4).bind fun y9=>some y9
 |e6::l7,l4=>if (l4++([e6.1]:List B8)).length*16<=140737488355328 then q4y F l7 (l4++([e6.1]:List B8)) else none
def y6d(F:Nat)(a1:(List (B8×Bool))):Option (List B8):=
 q4y F a1 ([]:List B8)
def z2h(F:Nat)(a3:B8)(x9:q5e)(k12:Option B8):List B8->Option B8
  |[]=>k12
  |x16::tl2=>if (x16==a3)=true then some (x9.Name)
 else z2h F a3 x9 k12 tl2
def z7n(F:Nat)(a2:q5a)(a3:B8)(k4:Option B8):List q5e->Option B8
  |[]=>k4
  |x9::tl1=>jn (z7n F a2 a3 k4 tl1 ) (fun k8=>if (!((q6b a2.reached x9.Name).getD false))=true then k8
 else jn (k8) (fun k12=>z2h F a3 x9 k12 x9.Makes))
def M106(F:Nat)(a1:q2b)(a2:q5a)(a3:B8):Option B8:=
 jn (some ([]:B8)) (fun k4=>z7n F a2 a3 k4 a1.g.Funcs)
def z2l(F:Nat)(y8:q2b)(y10:q5a)(k51:(List q0c)->Option (q3e×Bool×Int)):List B8->(List q0c)->Option (q3e×Bool×Int)
 |[],l56=>k51 l56
 |x58::tl3,l56=>(M106 F y8 y10 x58).bind fun y60=>if (l56++([(q0c.mk x58 y60)]:List q0c)).length*32<=140737488355328 then z2l F y8 y10 k51 tl3 (l56++([(q0c.mk x58 y60)]:List q0c)) else none
def z3l(F:Nat)(a2:Int)(a4:B8)(y8:q2b)(y10:q5a)(y13:(List (B8×Int)))(k32:(List (B8×Bool))->(List q5j)->Option (q3e×Bool×Int)):Nat->B8->(List (B8×Bool))->(List q5j)->Option (q3e×Bool×Int)
 |0,_,_,_=>none
 |n+1,s38,m39,l40=>if (!(s38==a4))=true then (M104 F y8 a2 y10 y13 s38).bind fun y42=>if (l40++([(y42.1)]:List q5j)).length*40<=140737488355328 then if (a2==2)=true then jn (fun(m47:List (B8×Bool))=>z3l F a2 a4 y8 y10 y13 k32 n ((y42.1).To) m47 (l40++([(y42.1)]:List q5j))) (fun k46=>if (!((y42.2)==([]:B8)))=true then k46 (q0g m39 (y42.2) true)
 else k46 m39)
 else z3l F a2 a4 y8 y10 y13 k32 n ((y42.1).To) m39 (l40++([(y42.1)]:List q5j)) else none
 else k32 m39 l40
def z6r(F:Nat)(y13:(List (B8×Int)))(k15:B8->Option (q3e×Bool×Int)):List B8->B8->Option (q3e×Bool×Int)
  |[],s20=>k15 s20
  |x24::tl1,s20=>jn (fun(s23:B8)=>z6r F y13 k15 tl1 s23) (fun k22=>if ((q6b y13 x24).isSome)=true then if (s20==([]:B8))=true then k22 x24
 else jn (fun(s29:B8)=>k22 s29) (fun k28=>if (decide (((q6b y13 x24).getD 0)<((q6b y13 s20).getD 0)))=true then k28 x24
 else k28 s20)
 else k22 s20)
def M29(F:Nat)(a1:q7c)(a2:Int)(a3:(List B8))(a4:B8):Option (q3e×Bool×Int):=
 (w3j F a1 a2 a3 ([a4]:List B8)).bind fun y5=>if (y5 != 0)=true then some ((q3e.mk ([]:B8) ([]:List q5j) ([]:List q0c)),false,y5)
 else (M83 F a1 a3).bind fun y8=>(M102 F y8 a2).bind fun y10=>if (!((q6b y10.reached a4).getD false))=true then some ((q3e.mk ([]:B8) ([]:List q5j) ([]:List q0c)),false,0)
 else (M103 F y8 a2 y10 a4).bind fun y13=>jn (fun(s16:B8)=>jn (fun(m33:List (B8×Bool)) (l34:List q5j)=>(y6d F m33).bind fun y49=>jn (fun(l52:List q0c)=>some ((q3e.mk s16 l34 l52),true,0)) (fun k51=>z2l F y8 y10 k51 y49 ([]:List q0c))) (fun k32=>z3l F a2 a4 y8 y10 y13 k32 F s16 ([]:List (B8×Bool)) ([]:List q5j))) (fun k15=>z6r F y13 k15 a1.Entries ([]:B8))
def v0g(F:Nat)(a1:q7c)(k13:(List B8)->Option ((List B8)×Int)):List Bool->Int->(List B8)->Option ((List B8)×Int)
  |[],n17,l18=>k13 l18
  |x20::tl1,n17,l18=>jn (fun(l23:List B8)=>v0g F a1 k13 tl1 (n17+1) l23) (fun k22=>if x20=true then (idx a1.Funcs n17).bind fun x25=>if (l18++([x25.Name]:List B8)).length*16<=140737488355328 then k22 (l18++([x25.Name]:List B8)) else none
 else k22 l18)
def M25(F:Nat)(a1:q7c)(a2:Int)(a3:(List B8)):Option ((List B8)×Int):=
 (M78 F a1 a2 a3).bind fun y4=>if ((y4.2) != 0)=true then some (([]:List B8),(y4.2))
 else ((y4.1)).bind fun x7=>(M89 F x7 (-1)).bind fun y9=>(y9).bind fun x11=>jn (fun(l14:List B8)=>some (l14,0)) (fun k13=>v0g F a1 k13 x11.funcs 0 ([]:List B8))
def v9f(F:Nat)(a2:(List B8))(k4:Option Bool):List B8->Int->Option Bool
  |[],n6=>k4
  |x8::tl1,n6=>(idx a2 n6).bind fun x10=>if (!(x8==x10))=true then some false
 else v9f F a2 k4 tl1 (n6+1)
def M26(F:Nat)(a1:(List B8))(a2:(List B8)):Option Bool:=
 if (((a1.length:Nat):Int) != ((a2.length:Nat):Int))=true then some false
 else jn (some true) (fun k4=>v9f F a2 k4 a1 0)
def M14(F:Nat):Option Bool:=
 (M25 F (q7c.mk ([]:List q0f) ([]:List q7i) ([(q5e.mk ([97]:B8) ([120]:B8) ([(q6c.mk 1 ([98]:B8) ([]:B8) ([]:B8))]:List q6c) ([]:List B8)),(q5e.mk ([98]:B8) ([121]:B8) ([]:List q6c) ([]:List B8))]:List q5e) ([([97]:B8)]:List B8)) 1 ([]:(List B8))).bind fun y1=>if ((y1.2)==0)=true then (M26 F (y1.1) ([([97]:B8),([98]:B8)]:List B8)).bind fun y4=>some y4
 else some false
def M37(F:Nat)(a1:(List q0c)):Option (List q0c):=
 y3a a1.length (fun b7=>if b7=true then some ([]:List q0c)
 else if (([]:List q0c)++a1).length*32<=140737488355328 then some (([]:List q0c)++a1) else none)
def M36(F:Nat)(a1:Int)(a2:Int)(a3:List q0c):Option (List q0c):=if 0<=a1/\a1<=a2/\a2.toNat<=a3.length then some (a3.take a1.toNat++a3.drop a2.toNat) else none
def M39(F:Nat)(a1:(List q5j)):Option (List q5j):=
 y3a a1.length (fun b7=>if b7=true then some ([]:List q5j)
 else if (([]:List q5j)++a1).length*40<=140737488355328 then some (([]:List q5j)++a1) else none)
def M38(F:Nat)(a1:Int)(a2:Int)(a3:List q5j):Option (List q5j):=if 0<=a1/\a1<=a2/\a2.toNat<=a3.length then some (a3.take a1.toNat++a3.drop a2.toNat) else none
def z8b(F:Nat)(a1:q1b)(a2:q5c)(a3:(List q0c))(k4:Option Bool):List q0c->Int->Option Bool
  |[],n6=>k4
  |x13::tl1,n6=>jn (fun(b9:Bool) (b10:Bool) (b11:Bool) (b12:Bool)=>z8b F a1 a2 a3 k4 tl1 (n6+1)) (fun k8=>if (!((q6b a1.funcs x13.Func).isSome))=true then some false
 else if (!((q6b a1.types x13.Type_).isSome))=true then some false
 else if (decide (n6>0))=true then (idx a3 (w64 (n6 - 1))).bind fun x18=>if (Op.bytesLess x13.Type_ x18.Type_||x13.Type_==x18.Type_)=true then some false
 else (idx a2.funcs ((q6b a1.funcs x13.Func).getD 0)).bind fun x21=>if (!x21)=true then some false
 else (idx a1.g.Funcs ((q6b a1.funcs x13.Func).getD 0)).bind fun x24=>(M23 F x24.Makes x13.Type_).bind fun y26=>if (!y26)=true then some false
 else k8 (!((q6b a1.types x13.Type_).isSome)) (Op.bytesLess x13.Type_ x18.Type_||x13.Type_==x18.Type_) (!x21) (!y26)
 else (idx a2.funcs ((q6b a1.funcs x13.Func).getD 0)).bind fun x29=>if (!x29)=true then some false
 else (idx a1.g.Funcs ((q6b a1.funcs x13.Func).getD 0)).bind fun x32=>(M23 F x32.Makes x13.Type_).bind fun y34=>if (!y34)=true then some false
 else k8 (!((q6b a1.types x13.Type_).isSome)) false (!x29) (!y34))
def M162(F:Nat)(a1:q1b)(a2:q5c)(a3:(List q0c)):Option Bool:=
 jn (some true) (fun k4=>z8b F a1 a2 a3 k4 a3 0)
def M163(F:Nat)(a1:q1b)(a2:q5j)(a3:B8):Option (q6c×Bool):=
 if (!((q6b a1.funcs a3).isSome))=true then some ((q6c.mk 0 ([]:B8) ([]:B8) ([]:B8)),false)
 else if (!(a2.Site.Func==a3))=true then some ((q6c.mk 0 ([]:B8) ([]:B8) ([]:B8)),false)
 else if (decide (a2.Site.Call<0))=true then some ((q6c.mk 0 ([]:B8) ([]:B8) ([]:B8)),false)
 else (idx a1.g.Funcs ((q6b a1.funcs a3).getD 0)).bind fun x7=>if (decide (a2.Site.Call>=((x7.Calls.length:Nat):Int)))=true then some ((q6c.mk 0 ([]:B8) ([]:B8) ([]:B8)),false)
 else (idx a1.g.Funcs ((q6b a1.funcs a3).getD 0)).bind fun x10=>(idx x10.Calls a2.Site.Call).bind fun x12=>some (x12,((q6b a1.on x12.Feature).getD false))
def z7b(F:Nat)(a1:q1b)(a3:q6c)(a4:Int)(k5:(List Int)->Option (List Int)):List q0c->Int->(List Int)->Option (List Int)
  |[],n9,l10=>k5 l10
  |x14::tl1,n9,l10=>jn (fun(l13:List Int)=>z7b F a1 a3 a4 k5 tl1 (n9+1) l13) (fun k12=>(w5u F ((q6b a1.fitting a3.Target).getD ([]:(List Int))) ((q6b a1.types x14.Type_).getD 0)).bind fun y16=>if y16=true then (z3f F a1 a3 ((q6b a1.types x14.Type_).getD 0)).bind fun y19=>jn (fun(l22:List Int)=>k12 l22) (fun k21=>if (y19==a4)=true then if (l10++([n9]:List Int)).length*8<=140737488355328 then k21 (l10++([n9]:List Int)) else none
 else k21 l10)
 else k12 l10)
def M165(F:Nat)(a1:q1b)(a2:(List q0c))(a3:q6c)(a4:Int):Option (List Int):=
 jn (fun(l6:List Int)=>some l6) (fun k5=>z7b F a1 a3 a4 k5 a2 0 ([]:List Int))
def z5m(F:Nat)(a2:Bool)(k3:Option Int):List Bool->Int->Option Int
  |[],n5=>k3
  |x7::tl1,n5=>if (a2==x7)=true then some n5
 else z5m F a2 k3 tl1 (n5+1)
def M205(F:Nat)(a1:(List Bool))(a2:Bool):Option Int:=
 jn (some (-1)) (fun k3=>z5m F a2 k3 a1 0)
def M166(F:Nat)(a1:(List Bool))(a2:Bool):Option Bool:=
 (M205 F a1 a2).bind fun y3=>some (decide (y3>=0))
def j6j(F:Nat)(k50:(List Bool)->Option Bool):List Int->(List Bool)->Option Bool
 |[],l55=>k50 l55
 |x57::tl2,l55=>(idx l55 x57).bind fun x59=>j6j F k50 tl2 (l55.set x57.toNat true)
def z6n(F:Nat)(a1:q1b)(a3:q3e)(k17:B8->(List Bool)->Option Bool):List q5j->B8->(List Bool)->Option Bool
  |[],s23,l25=>k17 s23 l25
  |x32::tl1,s23,l25=>jn (fun(s28:B8) (b29:Bool) (b30:Bool) (l31:List Bool)=>z6n F a1 a3 k17 tl1 s28 l31) (fun k27=>(M163 F a1 x32 s23).bind fun y34=>if (!(y34.2))=true then some false
 else if (!((q6b a1.funcs x32.To).isSome))=true then some false
 else (j0h F a1 (y34.1)).bind fun y38=>(w5u F y38 ((q6b a1.funcs x32.To).getD 0)).bind fun y40=>if (!y40)=true then some false
 else if a1.made=true then jn (fun(l45:List Bool)=>k27 x32.To (!((q6b a1.funcs x32.To).isSome)) (!y40) l45) (fun k44=>if ((y34.1).Kind==2)=true then (M165 F a1 a3.Made (y34.1) ((q6b a1.funcs x32.To).getD 0)).bind fun y47=>if (((y47.length:Nat):Int)==0)=true then some false
 else jn (fun(l51:List Bool)=>k44 l51) (fun k50=>j6j F k50 y47 l25)
 else k44 l25)
 else k27 x32.To (!((q6b a1.funcs x32.To).isSome)) (!y40) l25)
def z5n(F:Nat)(k100:(List Bool)->Option Bool):List Int->(List Bool)->Option Bool
 |[],l105=>k100 l105
 |x107::tl4,l105=>(idx l105 x107).bind fun x109=>z5n F k100 tl4 (l105.set x107.toNat true)
def z1h(F:Nat)(a1:q1b)(a3:q3e)(k67:B8->(List Bool)->Option Bool):List q5j->B8->(List Bool)->Option Bool
  |[],s73,l75=>k67 s73 l75
  |x82::tl3,s73,l75=>jn (fun(s78:B8) (b79:Bool) (b80:Bool) (l81:List Bool)=>z1h F a1 a3 k67 tl3 s78 l81) (fun k77=>(M163 F a1 x82 s73).bind fun y84=>if (!(y84.2))=true then some false
 else if (!((q6b a1.funcs x82.To).isSome))=true then some false
 else (j0h F a1 (y84.1)).bind fun y88=>(w5u F y88 ((q6b a1.funcs x82.To).getD 0)).bind fun y90=>if (!y90)=true then some false
 else if a1.made=true then jn (fun(l95:List Bool)=>k77 x82.To (!((q6b a1.funcs x82.To).isSome)) (!y90) l95) (fun k94=>if ((y84.1).Kind==2)=true then (M165 F a1 a3.Made (y84.1) ((q6b a1.funcs x82.To).getD 0)).bind fun y97=>if (((y97.length:Nat):Int)==0)=true then some false
 else jn (fun(l101:List Bool)=>k94 l101) (fun k100=>z5n F k100 y97 l75)
 else k94 l75)
 else k77 x82.To (!((q6b a1.funcs x82.To).isSome)) (!y90) l75)
def M109(F:Nat)(a1:q1b)(a2:B8)(a3:q3e):Option Bool:=
 (M89 F a1 (-1)).bind fun y4=>(y4).bind fun x6=>(M23 F a1.g.Entries a3.Entry).bind fun y8=>if (!y8)=true then some false
 else (M162 F a1 x6 a3.Made).bind fun y11=>if (!y11)=true then some false
 else if (!a1.made)=true then if (decide (((a3.Made.length:Nat):Int)>0))=true then some false
 else if 0<=((a3.Made.length:Nat):Int)/\((1:Nat):Int)*((a3.Made.length:Nat):Int)<=140737488355328/\((a3.Made.length:Nat):Int)<=140737488355328 then jn (fun(s18:B8) (l19:List Bool)=>if (s18==a2)=true then (M166 F l19 false).bind fun y64=>some (!y64)
 else some false) (fun k17=>z6n F a1 a3 k17 a3.Hops a3.Entry (List.replicate (((a3.Made.length:Nat):Int)).toNat (false:Bool))) else none
 else if 0<=((a3.Made.length:Nat):Int)/\((1:Nat):Int)*((a3.Made.length:Nat):Int)<=140737488355328/\((a3.Made.length:Nat):Int)<=140737488355328 then jn (fun(s68:B8) (l69:List Bool)=>if (s68==a2)=true then (M166 F l69 false).bind fun y114=>some (!y114)
 else some false) (fun k67=>z1h F a1 a3 k67 a3.Hops a3.Entry (List.replicate (((a3.Made.length:Nat):Int)).toNat (false:Bool))) else none
def M31(F:Nat)(a1:q7c)(a2:Int)(a3:(List B8))(a4:B8)(a5:q3e):Option (Bool×Int):=
 (M90 F a1 a2 a3 a4).bind fun y6=>if ((y6.2.2) != 0)=true then some (false,(y6.2.2))
 else ((y6.1)).bind fun x9=>(M109 F x9 a4 a5).bind fun y11=>some (y11,0)
def z0h(F:Nat)(x10:q0c)(k17:Bool->Option Bool):List B8->Bool->Option Bool
  |[],b21=>k17 b21
  |x26::tl2,b21=>jn (fun(b25:Bool)=>z0h F x10 k17 tl2 b25) (fun k24=>if b21=true then k24 true
 else k24 (x26==x10.Type_))
def z9g(F:Nat)(x10:q0c)(k32:Bool->Option Bool):List B8->Bool->Option Bool
  |[],b36=>k32 b36
  |x41::tl3,b36=>jn (fun(b40:Bool)=>z9g F x10 k32 tl3 b40) (fun k39=>if b36=true then k39 true
 else k39 (x41==x10.Type_))
def z3c(F:Nat)(a1:q2b)(a2:q5a)(a3:(List q0c))(k4:Option Bool):List q0c->Int->Option Bool
  |[],n6=>k4
  |x10::tl1,n6=>jn (fun(b9:Bool)=>z3c F a1 a2 a3 k4 tl1 (n6+1)) (fun k8=>if (decide (n6>0))=true then (idx a3 (w64 (n6 - 1))).bind fun x13=>if (Op.bytesLess x10.Type_ x13.Type_||x10.Type_==x13.Type_)=true then some false
 else if (!((q6b a2.reached x10.Func).getD false))=true then some false
 else jn (fun(b18:Bool)=>if (!b18)=true then some false
 else k8 (!((q6b a2.reached x10.Func).getD false))) (fun k17=>z0h F x10 k17 (((q6b a1.funcs x10.Func).getD (q5e.mk ([]:B8) ([]:B8) ([]:(List q6c)) ([]:(List B8)))).Makes) false)
 else if (!((q6b a2.reached x10.Func).getD false))=true then some false
 else jn (fun(b33:Bool)=>if (!b33)=true then some false
 else k8 (!((q6b a2.reached x10.Func).getD false))) (fun k32=>z9g F x10 k32 (((q6b a1.funcs x10.Func).getD (q5e.mk ([]:B8) ([]:B8) ([]:(List q6c)) ([]:(List B8)))).Makes) false))
def M116(F:Nat)(a1:q2b)(a2:q5a)(a3:(List q0c)):Option Bool:=
 jn (some true) (fun k4=>z3c F a1 a2 a3 k4 a3 0)
def j1j(F:Nat)(k122:Option (Bool×Int)):List Bool->Option (Bool×Int)
  |[]=>k122
  |x126::tl7=>if (!x126)=true then some (false,0)
 else j1j F k122 tl7
def j7p(F:Nat)(x78:q1a)(k82:(List Bool)->Option (Bool×Int)):List q0c->Int->(List Bool)->Option (Bool×Int)
  |[],n86,l87=>k82 l87
  |x91::tl5,n86,l87=>jn (fun(l90:List Bool)=>j7p F x78 k82 tl5 (n86+1) l90) (fun k89=>if (!(x78.typ==([]:B8)))=true then jn (fun(l95:List Bool)=>k89 l95) (fun k94=>if (x91.Type_==x78.typ)=true then (idx l87 n86).bind fun x97=>k94 (l87.set n86.toNat true)
 else k94 l87)
 else k89 l87)
def j6p(F:Nat)(x78:q1a)(k100:(List Bool)->Option (Bool×Int)):List q0c->Int->(List Bool)->Option (Bool×Int)
  |[],n104,l105=>k100 l105
  |x109::tl6,n104,l105=>jn (fun(l108:List Bool)=>j6p F x78 k100 tl6 (n104+1) l108) (fun k107=>if (!(x78.typ==([]:B8)))=true then jn (fun(l113:List Bool)=>k107 l113) (fun k112=>if (x109.Type_==x78.typ)=true then (idx l105 n104).bind fun x115=>k112 (l105.set n104.toNat true)
 else k112 l105)
 else k107 l105)
def z5r(F:Nat)(a5:q3e)(x46:q5j)(k65:Bool->(List Bool)->Option (Bool×Int)):List q1a->Bool->(List Bool)->Option (Bool×Int)
  |[],b71,l73=>k65 b71 l73
  |x78::tl4,b71,l73=>jn (fun(b76:Bool) (l77:List Bool)=>z5r F a5 x46 k65 tl4 b76 l77) (fun k75=>if (!(x78.to==x46.To))=true then k75 b71 l73
 else if b71=true then jn (fun(l83:List Bool)=>k75 true l83) (fun k82=>j7p F x78 k82 a5.Made 0 l73)
 else jn (fun(l101:List Bool)=>k75 true l101) (fun k100=>j6p F x78 k100 a5.Made 0 l73))
def z6x(F:Nat)(a5:q3e)(x46:q5j)(k49:Bool->(List Bool)->Option (Bool×Int)):List q0a->Bool->(List Bool)->Option (Bool×Int)
  |[],b55,l57=>k49 b55 l57
  |x62::tl3,b55,l57=>jn (fun(b60:Bool) (l61:List Bool)=>z6x F a5 x46 k49 tl3 b60 l61) (fun k59=>if (!(decide (x62.site=x46.Site)))=true then k59 b55 l57
 else jn (fun(b66:Bool) (l67:List Bool)=>k59 b66 l67) (fun k65=>z5r F a5 x46 k65 x62.aims b55 l57))
def j2j(F:Nat)(a5:q3e)(y9:q2b)(k33:B8->(List Bool)->Option (Bool×Int)):List q5j->B8->(List Bool)->Option (Bool×Int)
  |[],s39,l41=>k33 s39 l41
  |x46::tl2,s39,l41=>jn (fun(s44:B8) (l45:List Bool)=>j2j F a5 y9 k33 tl2 s44 l45) (fun k43=>if (!(x46.Site.Func==s39))=true then some (false,0)
 else jn (fun(b50:Bool) (l51:List Bool)=>if (!b50)=true then some (false,0)
 else k43 x46.To l51) (fun k49=>z6x F a5 x46 k49 ((q6b y9.links s39).getD ([]:(List q0a))) false l41))
def z4m(F:Nat)(k230:Option (Bool×Int)):List Bool->Option (Bool×Int)
  |[]=>k230
  |x234::tl13=>if (!x234)=true then some (false,0)
 else z4m F k230 tl13
def z6b(F:Nat)(x181:q1a)(k185:(List Bool)->Option (Bool×Int)):List q0c->Int->(List Bool)->Option (Bool×Int)
  |[],n189,l190=>k185 l190
  |x194::tl11,n189,l190=>jn (fun(l193:List Bool)=>z6b F x181 k185 tl11 (n189+1) l193) (fun k192=>if (!(x181.typ==([]:B8)))=true then jn (fun(l198:List Bool)=>k192 l198) (fun k197=>if (x194.Type_==x181.typ)=true then (idx l190 n189).bind fun x200=>k197 (l190.set n189.toNat true)
 else k197 l190)
 else k192 l190)
def z5b(F:Nat)(x181:q1a)(k203:Bool->(List Bool)->Option (Bool×Int)):List q0c->Int->Bool->(List Bool)->Option (Bool×Int)
  |[],n210,b209,l211=>k203 b209 l211
  |x216::tl12,n210,b209,l211=>jn (fun(b214:Bool) (l215:List Bool)=>z5b F x181 k203 tl12 (n210+1) b214 l215) (fun k213=>if (!(x181.typ==([]:B8)))=true then jn (fun(b220:Bool) (l221:List Bool)=>k213 b220 l221) (fun k219=>if (x216.Type_==x181.typ)=true then (idx l211 n210).bind fun x223=>k219 true (l211.set n210.toNat true)
 else k219 b209 l211)
 else k213 b209 l211)
def q4w(F:Nat)(a5:q3e)(x149:q5j)(k168:Bool->(List Bool)->Option (Bool×Int)):List q1a->Bool->(List Bool)->Option (Bool×Int)
  |[],b174,l176=>k168 b174 l176
  |x181::tl10,b174,l176=>jn (fun(b179:Bool) (l180:List Bool)=>q4w F a5 x149 k168 tl10 b179 l180) (fun k178=>if (!(x181.to==x149.To))=true then k178 b174 l176
 else if b174=true then jn (fun(l186:List Bool)=>k178 true l186) (fun k185=>z6b F x181 k185 a5.Made 0 l176)
 else jn (fun(b204:Bool) (l205:List Bool)=>k178 b204 l205) (fun k203=>z5b F x181 k203 a5.Made 0 (x181.typ==([]:B8)) l176))
def z5x(F:Nat)(a5:q3e)(x149:q5j)(k152:Bool->(List Bool)->Option (Bool×Int)):List q0a->Bool->(List Bool)->Option (Bool×Int)
  |[],b158,l160=>k152 b158 l160
  |x165::tl9,b158,l160=>jn (fun(b163:Bool) (l164:List Bool)=>z5x F a5 x149 k152 tl9 b163 l164) (fun k162=>if (!(decide (x165.site=x149.Site)))=true then k162 b158 l160
 else jn (fun(b169:Bool) (l170:List Bool)=>k162 b169 l170) (fun k168=>q4w F a5 x149 k168 x165.aims b158 l160))
def j0j(F:Nat)(a5:q3e)(y9:q2b)(k136:B8->(List Bool)->Option (Bool×Int)):List q5j->B8->(List Bool)->Option (Bool×Int)
  |[],s142,l144=>k136 s142 l144
  |x149::tl8,s142,l144=>jn (fun(s147:B8) (l148:List Bool)=>j0j F a5 y9 k136 tl8 s147 l148) (fun k146=>if (!(x149.Site.Func==s142))=true then some (false,0)
 else jn (fun(b153:Bool) (l154:List Bool)=>if (!b153)=true then some (false,0)
 else k146 x149.To l154) (fun k152=>z5x F a5 x149 k152 ((q6b y9.links s142).getD ([]:(List q0a))) false l144))
def z7x(F:Nat)(a5:q3e)(k11:Bool->Option (Bool×Int)):List B8->Bool->Option (Bool×Int)
  |[],b15=>k11 b15
  |x20::tl1,b15=>jn (fun(b19:Bool)=>z7x F a5 k11 tl1 b19) (fun k18=>if b15=true then k18 true
 else k18 (x20==a5.Entry))
def M40(F:Nat)(a1:q7c)(a2:Int)(a3:(List B8))(a4:B8)(a5:q3e):Option (Bool×Int):=
 (w3j F a1 a2 a3 ([a4]:List B8)).bind fun y6=>if (y6 != 0)=true then some (false,y6)
 else (M83 F a1 a3).bind fun y9=>jn (fun(b12:Bool)=>if (!b12)=true then some (false,0)
 else if (a2==1)=true then if (decide (((a5.Made.length:Nat):Int)>0))=true then some (false,0)
 else (M102 F y9 a2).bind fun y27=>(M116 F y9 y27 a5.Made).bind fun y29=>if (!y29)=true then some (false,0)
 else if 0<=((a5.Made.length:Nat):Int)/\((1:Nat):Int)*((a5.Made.length:Nat):Int)<=140737488355328/\((a5.Made.length:Nat):Int)<=140737488355328 then jn (fun(s34:B8) (l35:List Bool)=>jn (some ((s34==a4),0)) (fun k122=>j1j F k122 l35)) (fun k33=>j2j F a5 y9 k33 a5.Hops a5.Entry (List.replicate (((a5.Made.length:Nat):Int)).toNat (false:Bool))) else none
 else (M102 F y9 a2).bind fun y130=>(M116 F y9 y130 a5.Made).bind fun y132=>if (!y132)=true then some (false,0)
 else if 0<=((a5.Made.length:Nat):Int)/\((1:Nat):Int)*((a5.Made.length:Nat):Int)<=140737488355328/\((a5.Made.length:Nat):Int)<=140737488355328 then jn (fun(s137:B8) (l138:List Bool)=>jn (some ((s137==a4),0)) (fun k230=>z4m F k230 l138)) (fun k136=>j0j F a5 y9 k136 a5.Hops a5.Entry (List.replicate (((a5.Made.length:Nat):Int)).toNat (false:Bool))) else none) (fun k11=>z7x F a5 k11 a1.Entries false)
def M10(F:Nat)(a1:q7c)(a2:Int)(a3:(List B8))(a4:B8)(a5:Int)(a6:Bool):Option Bool:=
 (M28 F a1 a2 a3 a4).bind fun y7=>if ((y7.2.2) != 0)=true then (M29 F a1 a2 a3 a4).bind fun y10=>if ((y10.2.1)==(y7.2.1))=true then if ((y10.2.2)==(y7.2.2))=true then (M14 F).bind fun y14=>some y14
 else some false
 else some false
 else if (!(y7.2.1))=true then (M29 F a1 a2 a3 a4).bind fun y17=>if ((y17.2.1)==(y7.2.1))=true then if ((y17.2.2)==(y7.2.2))=true then (M14 F).bind fun y21=>some y21
 else some false
 else some false
 else jn (fun(l24:List q5j) (l25:List q0c)=>(M31 F a1 a2 a3 a4 (q3e.mk (y7.1).Entry l24 l25)).bind fun y64=>(M40 F a1 a2 a3 a4 (q3e.mk (y7.1).Entry l24 l25)).bind fun y66=>if ((y64.1)==(y66.1))=true then if a6=true then if ((y64.2)==0)=true then (M14 F).bind fun y71=>some y71
 else some false
 else if (!(y64.1))=true then if ((y64.2)==0)=true then (M14 F).bind fun y75=>some y75
 else some false
 else some false
 else some false) (fun k23=>if a6=true then if (decide (a5>=0))=true then jn (fun(l29:List q5j) (l30:List q0c)=>k23 l29 l30) (fun k28=>if (decide (a5<(((y7.1).Made.length:Nat):Int)))=true then (M37 F ((y7.1).Made)).bind fun y32=>(M36 F a5 (w64 (a5+1)) y32).bind fun y34=>k28 ((y7.1).Hops) y34
 else if (!a6)=true then if (decide (a5<(((y7.1).Hops.length:Nat):Int)))=true then (M39 F ((y7.1).Hops)).bind fun y38=>(M38 F a5 (w64 (a5+1)) y38).bind fun y40=>k28 y40 ((y7.1).Made)
 else (M14 F).bind fun y42=>some y42
 else (M14 F).bind fun y44=>some y44)
 else if (!a6)=true then (M14 F).bind fun y47=>some y47
 else (M14 F).bind fun y49=>some y49
 else if (!a6)=true then if (decide (a5>=0))=true then if (decide (a5<(((y7.1).Hops.length:Nat):Int)))=true then (M39 F ((y7.1).Hops)).bind fun y54=>(M38 F a5 (w64 (a5+1)) y54).bind fun y56=>k23 y56 ((y7.1).Made)
 else (M14 F).bind fun y58=>some y58
 else (M14 F).bind fun y60=>some y60
 else (M14 F).bind fun y62=>some y62)
end
end Go.Proofs.YtpbkggamiipdmaaGreat
