/- Part of the proof: C6M. -/
import Derived.Test.YtcihpgamojpcnaaGreatCutC6T
set_option linter.unusedSimpArgs false
set_option linter.unusedVariables false
namespace Go.Proofs.YtcihpgamojpcnaaGreat
open Go Go.Pv
set_option maxRecDepth 100000
noncomputable section
def j3i(F:Nat)(k23:(List (B8×Bool))->Option q4d):List q8e->(List (B8×Bool))->Option q4d
 |[],m28=>k23 m28
 |x30::tl3,m28=>j3i F k23 tl3 (q0d m28 x30.Name true)
def j4i(F:Nat)(k13:(List (B8×Bool))->Option q4d):List q6g->(List (B8×Bool))->Option q4d
 |[],m18=>k13 m18
 |x20::tl2,m18=>j4i F k13 tl2 (q0d m18 x20.Name true)
def j5i(F:Nat)(k3:(List (B8×q7d))->Option q4d):List q7d->(List (B8×q7d))->Option q4d
 |[],m8=>k3 m8
 |x10::tl1,m8=>j5i F k3 tl1 (q0d m8 x10.Name x10)
def M52(F:Nat)(a1:q4c)(a2:Bool):Option q4d:=
 jn (fun(m4:List (B8×q7d))=>jn (fun(m14:List (B8×Bool))=>jn (fun(m24:List (B8×Bool))=>some (q4d.mk a2 m4 m14 m24)) (fun k23=>j3i F k23 a1.Funcs ([]:List (B8×Bool)))) (fun k13=>j4i F k13 a1.Types ([]:List (B8×Bool)))) (fun k3=>j5i F k3 a1.Ifaces ([]:List (B8×q7d)))
def z7m(F:Nat)(a1:B8)(k2:Option Bool):Nat->Int->Option Bool
  |0,n4=>k2
  |tl1+1,n4=>(idx a1 n4).bind fun c6=>if (decide ((c6.toNat:Int)<33))=true then some false
 else (idx a1 n4).bind fun c9=>if (decide ((c9.toNat:Int)>126))=true then some false
 else (idx a1 n4).bind fun c12=>if ((c12.toNat:Int)==35)=true then some false
 else z7m F a1 k2 tl1 (n4+1)
def y5d(F:Nat)(a1:B8):Option Bool:=
 jn (if (!(a1==([]:B8)))=true then some (decide ((a1.length:Int)<=100))
 else some false) (fun k2=>if (a1.length:Int)<=9223372036854775807 then z7m F a1 k2 (((a1.length:Int):Int).toNat) 0 else none)
def M87(F:Nat)(a1:B8)(a2:B8)(a3:Bool):Option Int:=
 (y5d F a1).bind fun y4=>jn (some 0) (fun k6=>if (!y4)=true then some 8
 else if (!a3)=true then if (Op.bytesLess a1 a2||a1==a2)=true then some 10
 else k6
 else k6)
def z5w(F:Nat)(k18:Option Int):List B8->Int->B8->Option Int
  |[],n22,s21=>k18
  |x24::tl2,n22,s21=>(M87 F x24 s21 (n22==0)).bind fun y26=>if (y26 != 0)=true then some y26
 else z5w F k18 tl2 (n22+1) x24
def z6w(F:Nat)(k3:Option Int):List q7d->Int->B8->Option Int
  |[],n7,s6=>k3
  |x11::tl1,n7,s6=>jn (fun(s10:B8)=>z6w F k3 tl1 (n7+1) s10) (fun k9=>(M87 F x11.Name s6 (n7==0)).bind fun y13=>if (y13 != 0)=true then some y13
 else if (((x11.Methods.length:Nat):Int)==0)=true then some 13
 else if (decide (((x11.Methods.length:Nat):Int)>200))=true then some 3
 else jn (k9 x11.Name) (fun k18=>z5w F k18 x11.Methods 0 ([]:B8)))
def M75(F:Nat)(a1:q4d)(a2:(List q7d)):Option Int:=
 jn (some 0) (fun k3=>z6w F k3 a2 0 ([]:B8))
def z3w(F:Nat)(a1:q4d)(k17:Option Int):List q3j->Int->B8->Option Int
  |[],n21,s20=>k17
  |x25::tl2,n21,s20=>jn (fun(s24:B8)=>z3w F a1 k17 tl2 (n21+1) s24) (fun k23=>(M87 F x25.Name s20 (n21==0)).bind fun y27=>if (y27 != 0)=true then some y27
 else if (!a1.loose)=true then if (!((q3b a1.funcs x25.Func).getD false))=true then some 4
 else k23 x25.Name
 else k23 x25.Name)
def z4w(F:Nat)(a1:q4d)(k3:Option Int):List q6g->Int->B8->Option Int
  |[],n7,s6=>k3
  |x11::tl1,n7,s6=>jn (fun(s10:B8)=>z4w F a1 k3 tl1 (n7+1) s10) (fun k9=>(M87 F x11.Name s6 (n7==0)).bind fun y13=>if (y13 != 0)=true then some y13
 else if (decide (((x11.Methods.length:Nat):Int)>200))=true then some 3
 else jn (k9 x11.Name) (fun k17=>z3w F a1 k17 x11.Methods 0 ([]:B8)))
def M76(F:Nat)(a1:q4d)(a2:(List q6g)):Option Int:=
 jn (some 0) (fun k3=>z4w F a1 k3 a2 0 ([]:B8))
def j3j(F:Nat)(a2:B8)(k3:Option Int):List B8->Int->Option Int
  |[],n5=>k3
  |x7::tl1,n5=>if (a2==x7)=true then some n5
 else j3j F a2 k3 tl1 (n5+1)
def M35(F:Nat)(a1:(List B8))(a2:B8):Option Int:=
 jn (some (-1)) (fun k3=>j3j F a2 k3 a1 0)
def M10(F:Nat)(a1:(List B8))(a2:B8):Option Bool:=
 (M35 F a1 a2).bind fun y3=>some (decide (y3>=0))
def y1s(F:Nat)(a1:q4d)(a2:q4e):Option Int:=
 jn (if (!(a2.Feature==([]:B8)))=true then (y5d F a2.Feature).bind fun y16=>if (!y16)=true then some 8
 else some 0
 else some 0) (fun k3=>if (a2.Kind==1)=true then if (!a1.loose)=true then if (!((q3b a1.funcs a2.Target).getD false))=true then some 4
 else if (!(a2.Method==([]:B8)))=true then some 2
 else k3
 else if (!(a2.Method==([]:B8)))=true then some 2
 else k3
 else if (a2.Kind==2)=true then if (!a1.loose)=true then if (!((q3b a1.ifaces a2.Target).isSome))=true then some 4
 else (M10 F ((q3b a1.ifaces a2.Target).getD (q7d.mk ([]:B8) ([]:(List B8)))).Methods a2.Method).bind fun y12=>if (!y12)=true then some 4
 else k3
 else k3
 else some 7)
def z0w(F:Nat)(a1:q4d)(a2:(List B8))(a3:(List (B8×Bool)))(k4:Option Int):List B8->Int->Option Int
  |[],n6=>k4
  |x8::tl1,n6=>jn (z0w F a1 a2 a3 k4 tl1 (n6+1)) (fun k10=>if (!a1.loose)=true then jn (k10) (fun k12=>if (!((q3b a3 x8).getD false))=true then some 4
 else if (decide (n6>0))=true then (idx a2 (w64 (n6 - 1))).bind fun x15=>if (Op.bytesLess x8 x15||x8==x15)=true then some 10
 else k12
 else k12)
 else if (decide (n6>0))=true then (idx a2 (w64 (n6 - 1))).bind fun x19=>if (Op.bytesLess x8 x19||x8==x19)=true then some 10
 else k10
 else k10)
def M78(F:Nat)(a1:q4d)(a2:(List B8))(a3:(List (B8×Bool))):Option Int:=
 jn (some 0) (fun k4=>z0w F a1 a2 a3 k4 a2 0)
def z1w(F:Nat)(a1:q4d)(k20:Option Int):List q4e->Option Int
  |[]=>k20
  |x24::tl2=>(y1s F a1 x24).bind fun y26=>if (y26 != 0)=true then some y26
 else z1w F a1 k20 tl2
def z2w(F:Nat)(a1:q4d)(k3:Option Int):List q8e->Int->B8->Option Int
  |[],n7,s6=>k3
  |x11::tl1,n7,s6=>jn (fun(s10:B8)=>z2w F a1 k3 tl1 (n7+1) s10) (fun k9=>(M87 F x11.Name s6 (n7==0)).bind fun y13=>if (y13 != 0)=true then some y13
 else (y5d F x11.Component).bind fun y16=>if (!y16)=true then some 8
 else if (decide (((x11.Calls.length:Nat):Int)>200))=true then some 3
 else jn ((M78 F a1 x11.Makes a1.types).bind fun y30=>if (y30 != 0)=true then some y30
 else k9 x11.Name) (fun k20=>z1w F a1 k20 x11.Calls))
def M77(F:Nat)(a1:q4d)(a2:(List q8e)):Option Int:=
 jn (some 0) (fun k3=>z2w F a1 k3 a2 0 ([]:B8))
def M53(F:Nat)(a1:q4d)(a2:q4c):Option Int:=
 if (decide (((a2.Ifaces.length:Nat):Int)>200))=true then some 3
 else if (decide (((a2.Types.length:Nat):Int)>500))=true then some 3
 else if (decide (((a2.Funcs.length:Nat):Int)>3000))=true then some 3
 else (M75 F a1 a2.Ifaces).bind fun y6=>if (y6 != 0)=true then some y6
 else (M76 F a1 a2.Types).bind fun y9=>if (y9 != 0)=true then some y9
 else (M77 F a1 a2.Funcs).bind fun y12=>if (y12 != 0)=true then some y12
 else (M78 F a1 a2.Entries a1.funcs).bind fun y15=>some y15
def M20(F:Nat)(a1:q4c):Option Int:=
 (M52 F a1 false).bind fun y2=>(M53 F y2 a1).bind fun y4=>some y4
def z2x(F:Nat)(k3:Option Int):List B8->Int->B8->Option Int
  |[],n7,s6=>k3
  |x9::tl1,n7,s6=>(M87 F x9 s6 (n7==0)).bind fun y11=>if (y11 != 0)=true then some y11
 else z2x F k3 tl1 (n7+1) x9
def M66(F:Nat)(a1:(List B8)):Option Int:=
 if (decide (((a1.length:Nat):Int)>30))=true then some 3
 else jn (some 0) (fun k3=>z2x F k3 a1 0 ([]:B8))
def M79(F:Nat)(a1:B8):Option Bool:=
 some (!(a1==a1))
def M56(F:Nat)(a1:B8)(a2:B8):Option Int:=
 (M79 F a1).bind fun y3=>(M79 F a2).bind fun y5=>if y3=true then if y5=true then some 0
 else some (-1)
 else if y5=true then some 1
 else if (Op.bytesLess a1 a2)=true then some (-1)
 else if (!(Op.bytesLess a1 a2||a1==a2))=true then some 1
 else some 0
def M96(F:Nat)(a1:q3j)(a2:B8):Option Int:=
 (M56 F a1.Name a2).bind fun y3=>some y3
def z2l(F:Nat)(a1:(List q3j))(a2:B8)(k3:Int->Option (Int×Bool)):Nat->Int->Int->Option (Int×Bool)
 |0,_,_=>none
 |n+1,n7,n8=>if (decide (n7<n8))=true then (idx a1 (w64 (Int.fdiv (IntKind.wrap .u64 (w64 (n7+n8))) (2 ^ (min (Int.toNat 1) (IntKind.bits .u64)))))).bind fun x10=>(M96 F x10 a2).bind fun y12=>jn (fun(n15:Int) (n16:Int)=>z2l F a1 a2 k3 n n15 n16) (fun k14=>if (decide (y12<0))=true then k14 (w64 ((w64 (Int.fdiv (IntKind.wrap .u64 (w64 (n7+n8))) (2 ^ (min (Int.toNat 1) (IntKind.bits .u64)))))+1)) n8
 else k14 n7 (w64 (Int.fdiv (IntKind.wrap .u64 (w64 (n7+n8))) (2 ^ (min (Int.toNat 1) (IntKind.bits .u64))))))
 else k3 n7
def M95(F:Nat)(a1:(List q3j))(a2:B8):Option (Int×Bool):=
 jn (fun(n4:Int)=>if (decide (n4<((a1.length:Nat):Int)))=true then (idx a1 n4).bind fun x19=>(M96 F x19 a2).bind fun y21=>some (n4,(y21==0))
 else some (n4,false)) (fun k3=>z2l F a1 a2 k3 F 0 ((a1.length:Nat):Int))
def M72(F:Nat)(a1:q6g)(a2:B8):Option (B8×Bool):=
 (M95 F a1.Methods a2).bind fun y3=>if (!(y3.2))=true then some (([]:B8),false)
 else (idx a1.Methods (y3.1)).bind fun x6=>some (x6.Func,true)
def j5q(F:Nat)(a1:q6g)(k3:Option Bool):List B8->Option Bool
  |[]=>k3
  |x7::tl1=>(M72 F a1 x7).bind fun y9=>if (!(y9.2))=true then some false
 else j5q F a1 k3 tl1
def M54(F:Nat)(a1:q6g)(a2:q7d):Option Bool:=
 jn (some true) (fun k3=>j5q F a1 k3 a2.Methods)
def j4j(F:Nat)(k52:(List (B8×Bool))->Option (Option q8b)):List B8->(List (B8×Bool))->Option (Option q8b)
 |[],m57=>k52 m57
 |x59::tl5,m57=>j4j F k52 tl5 (q0d m57 x59 true)
def z3y(F:Nat)(x33:q7d)(k35:(List (B8×(List Int)))->Option (Option q8b)):List q6g->Int->(List (B8×(List Int)))->Option (Option q8b)
  |[],n39,m40=>k35 m40
  |x42::tl4,n39,m40=>(M54 F x42 x33).bind fun y44=>jn (fun(m47:List (B8×(List Int)))=>z3y F x33 k35 tl4 (n39+1) m47) (fun k46=>if y44=true then if (((q3b m40 x33.Name).getD [])++([n39]:List Int)).length*8<=140737488355328 then k46 (q0d m40 x33.Name (((q3b m40 x33.Name).getD [])++([n39]:List Int))) else none
 else k46 m40)
def j6j(F:Nat)(a1:q4c)(k24:(List (B8×(List Int)))->Option (Option q8b)):List q7d->(List (B8×(List Int)))->Option (Option q8b)
 |[],m29=>k24 m29
 |x33::tl3,m29=>jn (fun(m32:List (B8×(List Int)))=>j6j F a1 k24 tl3 m32) (fun k31=>jn (fun(m36:List (B8×(List Int)))=>k31 m36) (fun k35=>z3y F x33 k35 a1.Types 0 m29))
def j7j(F:Nat)(k14:(List (B8×Int))->Option (Option q8b)):List q6g->Int->(List (B8×Int))->Option (Option q8b)
 |[],n18,m19=>k14 m19
 |x21::tl2,n18,m19=>j7j F k14 tl2 (n18+1) (q0d m19 x21.Name n18)
def j8j(F:Nat)(k4:(List (B8×Int))->Option (Option q8b)):List q8e->Int->(List (B8×Int))->Option (Option q8b)
 |[],n8,m9=>k4 m9
 |x11::tl1,n8,m9=>j8j F k4 tl1 (n8+1) (q0d m9 x11.Name n8)
def M21(F:Nat)(a1:q4c)(a2:Int)(a3:(List B8)):Option (Option q8b):=
 jn (fun(m5:List (B8×Int))=>jn (fun(m15:List (B8×Int))=>jn (fun(m25:List (B8×(List Int)))=>jn (fun(m53:List (B8×Bool))=>some (some (q8b.mk a1 m5 m15 m25 m53 (a2==2)))) (fun k52=>j4j F k52 a3 (q0d ([]:List (B8×Bool)) ([]:B8) true))) (fun k24=>j6j F a1 k24 a1.Ifaces ([]:List (B8×(List Int))))) (fun k14=>j7j F k14 a1.Types 0 ([]:List (B8×Int)))) (fun k4=>j8j F k4 a1.Funcs 0 ([]:List (B8×Int)))
def M34(F:Nat)(a1:q4c)(a2:Int)(a3:(List B8)):Option ((Option q8b)×Int):=
 (M20 F a1).bind fun y4=>if (y4 != 0)=true then some ((none:Option q8b),y4)
 else (M66 F a3).bind fun y7=>if (y7 != 0)=true then some ((none:Option q8b),y7)
 else if (a2 != 1)=true then if (a2 != 2)=true then some ((none:Option q8b),7)
 else (M21 F a1 a2 a3).bind fun y12=>(y12).bind fun x14=>some ((some x14),0)
 else (M21 F a1 a2 a3).bind fun y16=>(y16).bind fun x18=>some ((some x18),0)
def M15(F:Nat)(a1:q4c)(a2:Int)(a3:(List B8))(a4:B8):Option ((Option q8b)×Int×Int):=
 (M34 F a1 a2 a3).bind fun y5=>if ((y5.2) != 0)=true then some ((none:Option q8b),0,(y5.2))
 else ((y5.1)).bind fun x8=>if (!((q3b x8.funcs a4).isSome))=true then some ((none:Option q8b),0,4)
 else some ((some x8),((q3b x8.funcs a4).getD 0),0)
def M44(F:Nat)(a1:Int)(a2:q8b)(a3:List Bool)(a4:List Bool)(a5:List (q3a×Bool))(a6:List q3a)(a7:List Int)(a8:List Int):Option ((List Bool)×(List Int)):=
 (idx a3 a1).bind fun x17=>if (!x17)=true then (idx a3 a1).bind fun x20=>if (a8++([a1]:List Int)).length*8<=140737488355328 then some ((a3.set a1.toNat true),(a8++([a1]:List Int))) else none
 else some (a3,a8)
def j0h(F:Nat)(a2:Int)(k3:Option Int):List Int->Int->Option Int
  |[],n5=>k3
  |x7::tl1,n5=>if (a2==x7)=true then some n5
 else j0h F a2 k3 tl1 (n5+1)
def M94(F:Nat)(a1:(List Int))(a2:Int):Option Int:=
 jn (some (-1)) (fun k3=>j0h F a2 k3 a1 0)
def M71(F:Nat)(a1:(List Int))(a2:Int):Option Bool:=
 (M94 F a1 a2).bind fun y3=>some (decide (y3>=0))
def M47(F:Nat)(a1:q8b)(a2:q4e)(a3:Int):Option Int:=
 (idx a1.g.Types a3).bind fun x4=>(M72 F x4 a2.Method).bind fun y6=>some ((q3b a1.funcs (y6.1)).getD 0)
def z6x(F:Nat)(a1:Int)(a2:q8b)(a4:List Bool)(a5:List (q3a×Bool))(a6:List q3a)(a7:List Int):List q3a->(List Bool)->(List Int)->Option ((List Bool)×(List Bool)×(List Int))
  |[],l48,l49=>some (l48,(a4.set a1.toNat true),l49)
  |x51::tl1,l48,l49=>(M71 F ((q3b a2.fitting x51.iface).getD ([]:(List Int))) a1).bind fun y53=>jn (fun(l56:List Bool) (l57:List Int)=>z6x F a1 a2 a4 a5 a6 a7 tl1 l56 l57) (fun k55=>if y53=true then (M47 F a2 (q4e.mk 0 x51.iface x51.method ([]:B8)) a1).bind fun y59=>(M44 F y59 a2 l48 (a4.set a1.toNat true) a5 a6 a7 l49).bind fun y61=>k55 (y61.1) (y61.2)
 else k55 l48 l49)
def M45(F:Nat)(a1:Int)(a2:q8b)(a3:List Bool)(a4:List Bool)(a5:List (q3a×Bool))(a6:List q3a)(a7:List Int)(a8:List Int):Option ((List Bool)×(List Bool)×(List Int)):=
 (idx a4 a1).bind fun x38=>if x38=true then some (a3,a4,a8)
 else (idx a4 a1).bind fun x41=>if (!a2.made)=true then some (a3,(a4.set a1.toNat true),a8)
 else z6x F a1 a2 a4 a5 a6 a7 a6 a3 a8
def z3r(F:Nat)(a1:q4e)(a2:q8b)(a4:List Bool)(a5:List (q3a×Bool))(a6:List q3a)(a7:List Int):List Int->(List Bool)->(List Int)->Option ((List Bool)×(List (q3a×Bool))×(List q3a)×(List Int))
  |[],l55,l56=>some (l55,(q0d a5 (q3a.mk a1.Target a1.Method) true),(a6++([(q3a.mk a1.Target a1.Method)]:List q3a)),l56)
  |x61::tl1,l55,l56=>jn (fun(l59:List Bool) (l60:List Int)=>z3r F a1 a2 a4 a5 a6 a7 tl1 l59 l60) (fun k58=>if (!a2.made)=true then (M47 F a2 a1 x61).bind fun y64=>(M44 F y64 a2 l55 a4 (q0d a5 (q3a.mk a1.Target a1.Method) true) (a6++([(q3a.mk a1.Target a1.Method)]:List q3a)) a7 l56).bind fun y66=>k58 (y66.1) (y66.2)
 else (idx a4 x61).bind fun x68=>jn (fun(l71:List Bool) (l72:List Int)=>k58 l71 l72) (fun k70=>if x68=true then (M47 F a2 a1 x61).bind fun y74=>(M44 F y74 a2 l55 a4 (q0d a5 (q3a.mk a1.Target a1.Method) true) (a6++([(q3a.mk a1.Target a1.Method)]:List q3a)) a7 l56).bind fun y76=>k70 (y76.1) (y76.2)
 else k70 l55 l56))
def M46(F:Nat)(a1:q4e)(a2:q8b)(a3:List Bool)(a4:List Bool)(a5:List (q3a×Bool))(a6:List q3a)(a7:List Int)(a8:List Int):Option ((List Bool)×(List (q3a×Bool))×(List q3a)×(List Int)):=
 if (a1.Kind==1)=true then (M44 F ((q3b a2.funcs a1.Target).getD 0) a2 a3 a4 a5 a6 a7 a8).bind fun y47=>some ((y47.1),a5,a6,(y47.2))
 else if ((q3b a5 (q3a.mk a1.Target a1.Method)).getD false)=true then some (a3,a5,a6,a8)
 else if (a6++([(q3a.mk a1.Target a1.Method)]:List q3a)).length*32<=140737488355328 then z3r F a1 a2 a4 a5 a6 a7 ((q3b a2.fitting a1.Target).getD ([]:(List Int))) a3 a8 else none
def z6y(F:Nat)(a1:q8b)(a2:Int)(l51:List Bool)(k20:(List Bool)->(List Bool)->(List (q3a×Bool))->(List q3a)->(List Int)->Option (Option q4f))(k69:(List Bool)->(List (q3a×Bool))->(List q3a)->(List Int)->Option (Option q4f)):List q4e->(List Bool)->(List (q3a×Bool))->(List q3a)->(List Int)->Option (Option q4f)
  |[],l80,m81,l82,l83=>k69 l80 m81 l82 l83
  |x90::tl4,l80,m81,l82,l83=>jn (fun(l86:List Bool) (m87:List (q3a×Bool)) (l88:List q3a) (l89:List Int)=>z6y F a1 a2 l51 k20 k69 tl4 l86 m87 l88 l89) (fun k85=>if (!((q3b a1.on x90.Feature).getD false))=true then k85 l80 m81 l82 l83
 else (M46 F x90 a1 l80 l51 m81 l82 ([]:List Int) l83).bind fun y93=>if (decide (a2>=0))=true then (idx (y93.1) a2).bind fun x96=>if x96=true then k20 (y93.1) l51 (y93.2.1) (y93.2.2.1) (y93.2.2.2)
 else k85 (y93.1) (y93.2.1) (y93.2.2.1) (y93.2.2.2)
 else k85 (y93.1) (y93.2.1) (y93.2.2.1) (y93.2.2.2))
def j0k(F:Nat)(a1:q8b)(m33:List (q3a×Bool))(l34:List q3a)(k49:(List Bool)->(List Bool)->(List Int)->Option (Option q4f)):List B8->(List Bool)->(List Bool)->(List Int)->Option (Option q4f)
 |[],l58,l59,l60=>k49 l58 l59 l60
 |x62::tl3,l58,l59,l60=>(M45 F ((q3b a1.types x62).getD 0) a1 l58 l59 m33 l34 ([]:List Int) l60).bind fun y64=>j0k F a1 m33 l34 k49 tl3 (y64.1) (y64.2.1) (y64.2.2)
def z8h(F:Nat)(a1:q8b)(a2:Int)(k20:(List Bool)->(List Bool)->(List (q3a×Bool))->(List q3a)->(List Int)->Option (Option q4f)):Nat->(List Bool)->(List Bool)->(List (q3a×Bool))->(List q3a)->(List Int)->Option (Option q4f)
 |0,_,_,_,_,_=>none
 |n+1,l31,l32,m33,l34,l35=>if (decide (((l35.length:Nat):Int)>0))=true then jn (fun(l38:List Bool) (l39:List Bool) (m40:List (q3a×Bool)) (l41:List q3a) (l42:List Int)=>z8h F a1 a2 k20 n l38 l39 m40 l41 l42) (fun k37=>(idx l35 0).bind fun x43=>if 1<=l35.length then if (x43==a2)=true then k20 l31 l32 m33 l34 (l35.drop 1)
 else (idx a1.g.Funcs x43).bind fun x47=>jn (fun(l50:List Bool) (l51:List Bool) (l52:List Int)=>(idx a1.g.Funcs x43).bind fun x67=>jn (fun(l70:List Bool) (m71:List (q3a×Bool)) (l72:List q3a) (l73:List Int)=>k37 l70 l51 m71 l72 l73) (fun k69=>z6y F a1 a2 l51 k20 k69 x67.Calls l50 m33 l34 l52)) (fun k49=>j0k F a1 m33 l34 k49 x47.Makes l31 l32 (l35.drop 1)) else none)
 else k20 l31 l32 m33 l34 l35
def j1k(F:Nat)(a1:q8b)(k5:(List Bool)->(List Int)->Option (Option q4f)):List B8->(List Bool)->(List Int)->Option (Option q4f)
 |[],l12,l13=>k5 l12 l13
 |x15::tl1,l12,l13=>(M44 F ((q3b a1.funcs x15).getD 0) a1 l12 (List.replicate (((a1.g.Types.length:Nat):Int)).toNat (false:Bool)) ([]:List (q3a×Bool)) ([]:List q3a) ([]:List Int) l13).bind fun y17=>j1k F a1 k5 tl1 (y17.1) (y17.2)
def M16(F:Nat)(a1:q8b)(a2:Int):Option (Option q4f):=
 if 0<=((a1.g.Funcs.length:Nat):Int)/\((1:Nat):Int)*((a1.g.Funcs.length:Nat):Int)<=140737488355328/\((a1.g.Funcs.length:Nat):Int)<=140737488355328 then if 0<=((a1.g.Types.length:Nat):Int)/\((1:Nat):Int)*((a1.g.Types.length:Nat):Int)<=140737488355328/\((a1.g.Types.length:Nat):Int)<=140737488355328 then jn (fun(l6:List Bool) (l7:List Int)=>jn (fun(l21:List Bool) (l22:List Bool) (m23:List (q3a×Bool)) (l24:List q3a) (l25:List Int)=>some (some (q4f.mk (some a1) l21 l22 m23 l24 ([]:List Int) l25))) (fun k20=>z8h F a1 a2 k20 F l6 (List.replicate (((a1.g.Types.length:Nat):Int)).toNat (false:Bool)) ([]:List (q3a×Bool)) ([]:List q3a) l7)) (fun k5=>j1k F a1 k5 a1.g.Entries (List.replicate (((a1.g.Funcs.length:Nat):Int)).toNat (false:Bool)) ([]:List Int)) else none else none
def M17(F:Nat)(a1:Int)(a2:Int)(a3:Int)(a4:List (List q6a))(a5:List Int)(a6:List Int):Option (List (List q6a)):=
 (idx a4 a1).bind fun x21=>(idx a4 a2).bind fun x23=>if (x21++[(q6a.mk a2 a3 ((x23.length:Nat):Int))]).length*24<=140737488355328 then (idx (a4.set a1.toNat (x21++[(q6a.mk a2 a3 ((x23.length:Nat):Int))])) a2).bind fun x27=>(idx (a4.set a1.toNat (x21++[(q6a.mk a2 a3 ((x23.length:Nat):Int))])) a1).bind fun x29=>if (x27++[(q6a.mk a1 0 (w64 (((x29.length:Nat):Int) - 1)))]).length*24<=140737488355328 then some ((a4.set a1.toNat (x21++[(q6a.mk a2 a3 ((x23.length:Nat):Int))])).set a2.toNat (x27++[(q6a.mk a1 0 (w64 (((x29.length:Nat):Int) - 1)))])) else none else none
def M48(F:Nat)(a1:List Int):Option (List Int):=if a1.length<4611686018427387904 then some (v6u a1) else none
def M49(F:Nat)(a1:List Int):Option (List Int):=if a1.length<=140737488355328 then some (cpt a1) else none
def z5y(F:Nat)(a1:q8b)(a2:q4e)(k4:(List Int)->Option (List Int)):List Int->(List Int)->Option (List Int)
 |[],l9=>k4 l9
 |x11::tl1,l9=>(M47 F a1 a2 x11).bind fun y13=>if (l9++([y13]:List Int)).length*8<=140737488355328 then z5y F a1 a2 k4 tl1 (l9++([y13]:List Int)) else none
def M18(F:Nat)(a1:q8b)(a2:q4e):Option (List Int):=
 if (a2.Kind==1)=true then some ([((q3b a1.funcs a2.Target).getD 0)]:List Int)
 else jn (fun(l5:List Int)=>(M48 F l5).bind fun y17=>if y17.length=l5.length then (M49 F y17).bind fun y20=>some y20 else none) (fun k4=>z5y F a1 a2 k4 ((q3b a1.fitting a2.Target).getD ([]:(List Int))) ([]:List Int))
def j6i(F:Nat)(a2:List (List q6a))(x85:Int)(k90:(List Int)->(List Int)->Option (List Int)):Nat->Int->(List Int)->(List Int)->Option (List Int)
  |0,n96,l97,l98=>k90 l97 l98
  |tl3+1,n96,l97,l98=>jn (fun(l101:List Int) (l102:List Int)=>j6i F a2 x85 k90 tl3 (n96+1) l101 l102) (fun k100=>(idx a2 x85).bind fun x103=>(idx x103 n96).bind fun y105=>if (decide (y105.left>0))=true then (idx l98 y105.to).bind fun x108=>jn (fun(l111:List Int) (l112:List Int)=>k100 l111 l112) (fun k110=>if (decide (x108<0))=true then (idx l98 x85).bind fun x114=>(idx l98 y105.to).bind fun x116=>if (l97++([y105.to]:List Int)).length*8<=140737488355328 then k110 (l97++([y105.to]:List Int)) (l98.set y105.to.toNat (w64 (x114+1))) else none
 else k110 l97 l98)
 else k100 l97 l98)
def z2r(F:Nat)(a2:List (List q6a)):Nat->(List Int)->(List Int)->Option (List Int)
 |0,_,_=>none
 |n+1,l79,l80=>if (decide (((l79.length:Nat):Int)>0))=true then jn (fun(l83:List Int) (l84:List Int)=>z2r F a2 n l83 l84) (fun k82=>(idx l79 0).bind fun x85=>if 1<=l79.length then (idx a2 x85).bind fun x88=>jn (fun(l91:List Int) (l92:List Int)=>k82 l91 l92) (fun k90=>if ((x88.length:Nat):Int)<=9223372036854775807 then j6i F a2 x85 k90 ((((x88.length:Nat):Int):Int).toNat) 0 (l79.drop 1) l80 else none) else none)
 else some l80
def z5x(F:Nat)(k64:(List Int)->Option (List Int)):Nat->Int->(List Int)->Option (List Int)
 |0,n68,l69=>k64 l69
 |tl1+1,n68,l69=>(idx l69 n68).bind fun x71=>z5x F k64 tl1 (n68+1) (l69.set n68.toNat (-1))
def M50(F:Nat)(a1:Int)(a2:List (List q6a))(a3:List Int)(a4:List Int):Option (List Int):=
 if 0<=((a2.length:Nat):Int)/\((8:Nat):Int)*((a2.length:Nat):Int)<=140737488355328/\((a2.length:Nat):Int)<=140737488355328 then jn (fun(l65:List Int)=>(idx l65 a1).bind fun x75=>z2r F a2 F ([a1]:List Int) (l65.set a1.toNat 0)) (fun k64=>z5x F k64 (((((List.replicate (((a2.length:Nat):Int)).toNat (0:Int)).length:Nat):Int):Int).toNat) 0 (List.replicate (((a2.length:Nat):Int)).toNat (0:Int))) else none
def z4x(R51:Int->Int->(List (List q6a))->(List Int)->(List Int)->Option (Bool×(List (List q6a))×(List Int)))(F:Nat)(a1:Int)(a2:Int)(a4:List Int)(k57:(List (List q6a))->(List Int)->Option (Bool×(List (List q6a))×(List Int))):Nat->(List (List q6a))->(List Int)->Option (Bool×(List (List q6a))×(List Int))
 |0,_,_=>none
 |n+1,l62,l63=>(idx l63 a1).bind fun x64=>(idx l62 a1).bind fun x66=>if (decide (x64<((x66.length:Nat):Int)))=true then jn (fun(l70:List (List q6a)) (l71:List Int)=>(idx l71 a1).bind fun x99=>(idx l71 a1).bind fun x101=>z4x R51 F a1 a2 a4 k57 n l70 (l71.set a1.toNat (w64 (x99+1)))) (fun k69=>(idx l62 a1).bind fun x72=>(idx l63 a1).bind fun x74=>(idx x72 x74).bind fun y76=>if (decide (y76.left>0))=true then (idx a4 y76.to).bind fun x79=>(idx a4 a1).bind fun x81=>if (x79==(w64 (x81+1)))=true then (R51 y76.to a2 l62 a4 l63).bind fun y84=>if (y84.1)=true then (idx (y84.2.1) a1).bind fun x87=>(idx x87 x74).bind fun y89=>(idx ((y84.2.1).set a1.toNat (x87.set x74.toNat (q6a.mk y89.to (w64 (y89.left - 1)) y89.back))) a1).bind fun x91=>(idx x91 x74).bind fun y93=>(idx ((y84.2.1).set a1.toNat (x87.set x74.toNat (q6a.mk y89.to (w64 (y89.left - 1)) y89.back))) y93.to).bind fun x95=>(idx x95 y93.back).bind fun y97=>some (true,(((y84.2.1).set a1.toNat (x87.set x74.toNat (q6a.mk y89.to (w64 (y89.left - 1)) y89.back))).set y93.to.toNat (x95.set y93.back.toNat (q6a.mk y97.to (w64 (y97.left+1)) y97.back))),(y84.2.2))
 else k69 (y84.2.1) (y84.2.2)
 else k69 l62 l63
 else k69 l62 l63)
 else k57 l62 l63
def w1q(R51:Int->Int->(List (List q6a))->(List Int)->(List Int)->Option (Bool×(List (List q6a))×(List Int)))(F:Nat)(a1:Int)(a2:Int)(a3:List (List q6a))(a4:List Int)(a5:List Int):Option (Bool×(List (List q6a))×(List Int)):=
 if (a1==a2)=true then some (true,a3,a5)
 else jn (fun(l58:List (List q6a)) (l59:List Int)=>some (false,l58,l59)) (fun k57=>z4x R51 F a1 a2 a4 k57 F a3 a5)
def M51:Nat->Int->Int->(List (List q6a))->(List Int)->(List Int)->Option (Bool×(List (List q6a))×(List Int))
 |0,_,_,_,_,_=>none
 |F+1,a1,a2,a3,a4,a5=>w1q (M51 F) F a1 a2 a3 a4 a5
def j9j(F:Nat)(a1:Int)(a2:Int)(y46:(List Int))(k53:(List (List q6a))->(List Int)->Option ((List (List q6a))×(List Int)×(List Int))):Nat->(List (List q6a))->(List Int)->Option ((List (List q6a))×(List Int)×(List Int))
 |0,_,_=>none
 |n+1,l58,l59=>(M51 F a1 a2 l58 y46 l59).bind fun y60=>if (y60.1)=true then j9j F a1 a2 y46 k53 n (y60.2.1) (y60.2.2)
 else k53 (y60.2.1) (y60.2.2)
def z4y(F:Nat)(a1:Int)(a2:Int):Nat->(List (List q6a))->(List Int)->(List Int)->Option ((List (List q6a))×(List Int)×(List Int))
 |0,_,_,_=>none
 |n+1,l39,l40,l41=>jn (fun(l43:List (List q6a)) (l44:List Int) (l45:List Int)=>z4y F a1 a2 n l43 l44 l45) (fun k42=>(M50 F a1 l39 l40 l41).bind fun y46=>(idx y46 a2).bind fun x48=>if (decide (x48<0))=true then some (l39,y46,l41)
 else if 0<=((l39.length:Nat):Int)/\((8:Nat):Int)*((l39.length:Nat):Int)<=140737488355328/\((l39.length:Nat):Int)<=140737488355328 then jn (fun(l54:List (List q6a)) (l55:List Int)=>k42 l54 y46 l55) (fun k53=>j9j F a1 a2 y46 k53 F l39 (List.replicate (((l39.length:Nat):Int)).toNat (0:Int))) else none)
def M19(F:Nat)(a1:Int)(a2:Int)(a3:List (List q6a))(a4:List Int)(a5:List Int):Option ((List (List q6a))×(List Int)×(List Int)):=
 z4y F a1 a2 F a3 a4 a5
def j5n(F:Nat)(a1:q4c)(x10:q8b)(y92:((List (List q6a))×(List Int)×(List Int)))(k94:(List q1b)->Option ((List q1b)×Bool×Int)):List q1b->Int->(List q1b)->Option ((List q1b)×Bool×Int)
  |[],n98,l99=>k94 l99
  |x103::tl6,n98,l99=>jn (fun(l102:List q1b)=>j5n F a1 x10 y92 k94 tl6 (n98+1) l102) (fun k101=>(idx (y92.2.1) ((q3b x10.funcs x103.Func).getD 0)).bind fun x105=>if (decide (x105>=0))=true then (idx (y92.2.1) (w64 (((a1.Funcs.length:Nat):Int)+n98))).bind fun x108=>jn (fun(l111:List q1b)=>k101 l111) (fun k110=>if (decide (x108<0))=true then if (l99++([x103]:List q1b)).length*24<=140737488355328 then k110 (l99++([x103]:List q1b)) else none
 else k110 l99)
 else k101 l99)
def v3f(F:Nat)(a1:q4c)(x10:q8b)(l15:List q1b)(k80:(List (List q6a))->Option ((List q1b)×Bool×Int)):List B8->(List (List q6a))->Option ((List q1b)×Bool×Int)
 |[],l85=>k80 l85
 |x87::tl5,l85=>(M17 F (w64 (((a1.Funcs.length:Nat):Int)+((l15.length:Nat):Int))) ((q3b x10.funcs x87).getD 0) 1099511627776 l85 ([]:List Int) ([]:List Int)).bind fun y89=>v3f F a1 x10 l15 k80 tl5 y89
def v6m(F:Nat)(a1:q4c)(n52:Int)(k67:(List (List q6a))->Option ((List q1b)×Bool×Int)):List Int->(List (List q6a))->Option ((List q1b)×Bool×Int)
 |[],l72=>k67 l72
 |x74::tl4,l72=>(M17 F (w64 (((a1.Funcs.length:Nat):Int)+n52)) x74 1099511627776 l72 ([]:List Int) ([]:List Int)).bind fun y76=>v6m F a1 n52 k67 tl4 y76
def v4f(F:Nat)(a1:q4c)(x10:q8b)(k48:(List (List q6a))->Option ((List q1b)×Bool×Int)):List q1b->Int->(List (List q6a))->Option ((List q1b)×Bool×Int)
 |[],n52,l53=>k48 l53
 |x57::tl3,n52,l53=>jn (fun(l56:List (List q6a))=>v4f F a1 x10 k48 tl3 (n52+1) l56) (fun k55=>(M17 F ((q3b x10.funcs x57.Func).getD 0) (w64 (((a1.Funcs.length:Nat):Int)+n52)) 1 l53 ([]:List Int) ([]:List Int)).bind fun y59=>(idx a1.Funcs ((q3b x10.funcs x57.Func).getD 0)).bind fun x61=>(idx x61.Calls x57.Call).bind fun x63=>(M18 F x10 x63).bind fun y65=>jn (fun(l68:List (List q6a))=>k55 l68) (fun k67=>v6m F a1 n52 k67 y65 y59))
def v5f(F:Nat)(x10:q8b)(x16:q4f)(n20:Int)(x25:q8e)(k27:(List q1b)->Option ((List q1b)×Bool×Int)):List q4e->Int->(List q1b)->Option ((List q1b)×Bool×Int)
  |[],n31,l32=>k27 l32
  |x36::tl2,n31,l32=>jn (fun(l35:List q1b)=>v5f F x10 x16 n20 x25 k27 tl2 (n31+1) l35) (fun k34=>(idx x16.funcs n20).bind fun x38=>if x38=true then jn (fun(l42:List q1b)=>k34 l42) (fun k41=>if ((q3b x10.on x36.Feature).getD false)=true then if (l32++([(q1b.mk x25.Name n31)]:List q1b)).length*24<=140737488355328 then k41 (l32++([(q1b.mk x25.Name n31)]:List q1b)) else none
 else k41 l32)
 else k34 l32)
def v6f(F:Nat)(x10:q8b)(x16:q4f)(k14:(List q1b)->Option ((List q1b)×Bool×Int)):List q8e->Int->(List q1b)->Option ((List q1b)×Bool×Int)
 |[],n20,l21=>k14 l21
 |x25::tl1,n20,l21=>jn (fun(l24:List q1b)=>v6f F x10 x16 k14 tl1 (n20+1) l24) (fun k23=>jn (fun(l28:List q1b)=>k23 l28) (fun k27=>v5f F x10 x16 n20 x25 k27 x25.Calls 0 l21))
def M5(F:Nat)(a1:q4c)(a2:(List B8))(a3:B8):Option ((List q1b)×Bool×Int):=
 (M15 F a1 1 a2 a3).bind fun y4=>if ((y4.2.2) != 0)=true then some (([]:List q1b),false,(y4.2.2))
 else (M10 F a1.Entries a3).bind fun y7=>if y7=true then some (([]:List q1b),false,0)
 else ((y4.1)).bind fun x10=>(M16 F x10 (-1)).bind fun y12=>jn (fun(l15:List q1b)=>if 0<=(w64 ((w64 (((a1.Funcs.length:Nat):Int)+((l15.length:Nat):Int)))+1))/\((24:Nat):Int)*(w64 ((w64 (((a1.Funcs.length:Nat):Int)+((l15.length:Nat):Int)))+1))<=140737488355328/\(w64 ((w64 (((a1.Funcs.length:Nat):Int)+((l15.length:Nat):Int)))+1))<=140737488355328 then jn (fun(l49:List (List q6a))=>jn (fun(l81:List (List q6a))=>(M19 F (w64 (((a1.Funcs.length:Nat):Int)+((l15.length:Nat):Int))) (y4.2.1) l81 ([]:List Int) ([]:List Int)).bind fun y92=>jn (fun(l95:List q1b)=>some (l95,true,0)) (fun k94=>j5n F a1 x10 y92 k94 l15 0 ([]:List q1b))) (fun k80=>v3f F a1 x10 l15 k80 a1.Entries l49)) (fun k48=>v4f F a1 x10 k48 l15 0 (List.replicate ((w64 ((w64 (((a1.Funcs.length:Nat):Int)+((l15.length:Nat):Int)))+1))).toNat (([]:(List q6a)):(List q6a)))) else none) (fun k14=>(y12).bind fun x16=>v6f F x10 x16 k14 a1.Funcs 0 ([]:List q1b))
def M80(F:Nat)(a1:Int):Option Bool:=
 some (a1 != a1)
def M57(F:Nat)(a1:Int)(a2:Int):Option Int:=
 (M80 F a1).bind fun y3=>(M80 F a2).bind fun y5=>if y3=true then if y5=true then some 0
 else some (-1)
 else if y5=true then some 1
 else if (decide (a1<a2))=true then some (-1)
 else if (decide (a1>a2))=true then some 1
 else some 0
def j4q(F:Nat)(k2:Option Int):List Int->Option Int
  |[]=>k2
  |x6::tl1=>if (x6 != 0)=true then some x6
 else j4q F k2 tl1
def M55(F:Nat)(a1:(List Int)):Option Int:=
 jn (some 0) (fun k2=>j4q F k2 a1)
def M22(F:Nat)(a1:q1b)(a2:q1b):Option Int:=
 (M56 F a1.Func a2.Func).bind fun y3=>(M57 F a1.Call a2.Call).bind fun y5=>(M55 F ([y3,y5]:List Int)).bind fun y7=>some y7
def M29(F:Nat)(a1:(List B8)):Option (List B8):=
 y5a a1.length (fun b2=>if b2=true then some ([]:List B8)
 else if (([]:List B8)++a1).length*16<=140737488355328 then some (([]:List B8)++a1) else none)
def M25(F:Nat)(a1:q7d):Option q7d:=
 (M29 F a1.Methods).bind fun y2=>some (q7d.mk a1.Name y2)
def M24(F:Nat)(a1:q7d):Option B8:=
 some (a1.Name)
def M59(F:Nat)(a1:q7d)(a2:q7d):Option Int:=
 (M24 F a1).bind fun y3=>(M24 F a2).bind fun y5=>(M56 F y3 y5).bind fun y7=>some y7
def M58(F:Nat)(a1:List q7d):Option (List q7d):=y1e (fun x3 y4=>M59 F x3 y4) a1
def z2y(F:Nat)(k2:(List q7d)->Option (List q7d)):List q7d->(List q7d)->Option (List q7d)
 |[],l7=>k2 l7
 |x9::tl1,l7=>(M25 F x9).bind fun y11=>if (l7++([y11]:List q7d)).length*40<=140737488355328 then z2y F k2 tl1 (l7++([y11]:List q7d)) else none
def M23(F:Nat)(a1:(List q7d)):Option (List q7d):=
 jn (fun(l3:List q7d)=>(M58 F l3).bind fun y15=>if y15.length=l3.length then some y15 else none) (fun k2=>z2y F k2 a1 ([]:List q7d))
def M62(F:Nat)(a1:(List q3j)):Option (List q3j):=
 y5a a1.length (fun b2=>if b2=true then some ([]:List q3j)
 else if (([]:List q3j)++a1).length*32<=140737488355328 then some (([]:List q3j)++a1) else none)
def M28(F:Nat)(a1:q6g):Option q6g:=
 (M62 F a1.Methods).bind fun y2=>some (q6g.mk a1.Name y2)
def M27(F:Nat)(a1:q6g):Option B8:=
 some (a1.Name)
def M61(F:Nat)(a1:q6g)(a2:q6g):Option Int:=
 (M27 F a1).bind fun y3=>(M27 F a2).bind fun y5=>(M56 F y3 y5).bind fun y7=>some y7
def M60(F:Nat)(a1:List q6g):Option (List q6g):=y1e (fun x3 y4=>M61 F x3 y4) a1
def z1y(F:Nat)(k2:(List q6g)->Option (List q6g)):List q6g->(List q6g)->Option (List q6g)
 |[],l7=>k2 l7
 |x9::tl1,l7=>(M28 F x9).bind fun y11=>if (l7++([y11]:List q6g)).length*40<=140737488355328 then z1y F k2 tl1 (l7++([y11]:List q6g)) else none
def M26(F:Nat)(a1:(List q6g)):Option (List q6g):=
 jn (fun(l3:List q6g)=>(M60 F l3).bind fun y15=>if y15.length=l3.length then some y15 else none) (fun k2=>z1y F k2 a1 ([]:List q6g))
def v2e(F:Nat)(m9:List (q1b×Bool))(x48:q8e)(k52:(List q4e)->Option (q4c×Int)):List q4e->Int->(List q4e)->Option (q4c×Int)
  |[],n56,l57=>k52 l57
  |x59::tl3,n56,l57=>jn (fun(l62:List q4e)=>v2e F m9 x48 k52 tl3 (n56+1) l62) (fun k61=>if (!((q3b m9 (q1b.mk x48.Name n56)).getD false))=true then if (l57++([x59]:List q4e)).length*56<=140737488355328 then k61 (l57++([x59]:List q4e)) else none
 else k61 l57)
def v3e(F:Nat)(m9:List (q1b×Bool))(k39:(List q8e)->Option (q4c×Int)):List q8e->(List q8e)->Option (q4c×Int)
 |[],l44=>k39 l44
 |x48::tl2,l44=>jn (fun(l47:List q8e)=>v3e F m9 k39 tl2 l47) (fun k46=>(M29 F x48.Makes).bind fun y50=>jn (fun(l53:List q4e)=>if (l44++([(q8e.mk x48.Name x48.Component l53 y50)]:List q8e)).length*80<=140737488355328 then k46 (l44++([(q8e.mk x48.Name x48.Component l53 y50)]:List q8e)) else none) (fun k52=>v2e F m9 x48 k52 x48.Calls 0 ([]:List q4e)))
def v4e(F:Nat)(a1:q4c)(a2:(List q1b))(x10:q8b)(k8:(List (q1b×Bool))->Option (q4c×Int)):List q1b->Int->(List (q1b×Bool))->Option (q4c×Int)
  |[],n14,m15=>k8 m15
  |x17::tl1,n14,m15=>jn (fun(b20:Bool)=>v4e F a1 a2 x10 k8 tl1 (n14+1) (q0d m15 x17 true)) (fun k19=>if (!((q3b x10.funcs x17.Func).isSome))=true then some ((q4c.mk ([]:List q7d) ([]:List q6g) ([]:List q8e) ([]:List B8)),4)
 else if (decide (x17.Call<0))=true then some ((q4c.mk ([]:List q7d) ([]:List q6g) ([]:List q8e) ([]:List B8)),9)
 else (idx a1.Funcs ((q3b x10.funcs x17.Func).getD 0)).bind fun x23=>if (decide (x17.Call>=((x23.Calls.length:Nat):Int)))=true then some ((q4c.mk ([]:List q7d) ([]:List q6g) ([]:List q8e) ([]:List B8)),9)
 else if (decide (n14>0))=true then (idx a2 (w64 (n14 - 1))).bind fun x27=>(M22 F x27 x17).bind fun y29=>if (decide (y29>=0))=true then some ((q4c.mk ([]:List q7d) ([]:List q6g) ([]:List q8e) ([]:List B8)),10)
 else k19 (decide (x17.Call>=((x23.Calls.length:Nat):Int)))
 else k19 (decide (x17.Call>=((x23.Calls.length:Nat):Int))))
def M6(F:Nat)(a1:q4c)(a2:(List q1b)):Option (q4c×Int):=
 (M20 F a1).bind fun y3=>if (y3 != 0)=true then some ((q4c.mk ([]:List q7d) ([]:List q6g) ([]:List q8e) ([]:List B8)),y3)
 else (M21 F a1 1 ([]:List B8)).bind fun y6=>jn (fun(m9:List (q1b×Bool))=>(M23 F a1.Ifaces).bind fun y33=>(M26 F a1.Types).bind fun y35=>(M29 F a1.Entries).bind fun y37=>jn (fun(l40:List q8e)=>some ((q4c.mk y33 y35 l40 y37),0)) (fun k39=>v3e F m9 k39 a1.Funcs ([]:List q8e))) (fun k8=>(y6).bind fun x10=>v4e F a1 a2 x10 k8 a2 0 ([]:List (q1b×Bool)))
def j9h(F:Nat)(k35:(List (B8×Bool))->Option q0e):List q8e->(List (B8×Bool))->Option q0e
 |[],m40=>k35 m40
 |x42::tl4,m40=>j9h F k35 tl4 (q0d m40 x42.Name true)
def j0i(F:Nat)(k25:(List (B8×Bool))->Option q0e):List q6g->(List (B8×Bool))->Option q0e
 |[],m30=>k25 m30
 |x32::tl3,m30=>j0i F k25 tl3 (q0d m30 x32.Name true)
def j1i(F:Nat)(x11:q7d)(k13:(List (B8×(List (B8×Bool))))->Option q0e):List B8->(List (B8×(List (B8×Bool))))->Option q0e
 |[],m18=>k13 m18
 |x20::tl2,m18=>if (q3b m18 x11.Name).isSome=true then j1i F x11 k13 tl2 (q0d m18 x11.Name (q0d ((q3b m18 x11.Name).getD []) x20 true)) else none
def j2i(F:Nat)(k2:(List (B8×(List (B8×Bool))))->Option q0e):List q7d->(List (B8×(List (B8×Bool))))->Option q0e
 |[],m7=>k2 m7
 |x11::tl1,m7=>jn (fun(m10:List (B8×(List (B8×Bool))))=>j2i F k2 tl1 m10) (fun k9=>jn (fun(m14:List (B8×(List (B8×Bool))))=>k9 m14) (fun k13=>j1i F x11 k13 x11.Methods (q0d m7 x11.Name ([]:List (B8×Bool)))))
def M63(F:Nat)(a1:q4c):Option q0e:=
 jn (fun(m3:List (B8×(List (B8×Bool))))=>jn (fun(m26:List (B8×Bool))=>jn (fun(m36:List (B8×Bool))=>some (q0e.mk m3 m26 m36)) (fun k35=>j9h F k35 a1.Funcs ([]:List (B8×Bool)))) (fun k25=>j0i F k25 a1.Types ([]:List (B8×Bool)))) (fun k2=>j2i F k2 a1.Ifaces ([]:List (B8×(List (B8×Bool)))))
def j5h(F:Nat)(a1:B8)(k2:Option Bool):Nat->Int->Option Bool
  |0,n4=>k2
  |tl1+1,n4=>(idx a1 n4).bind fun c6=>if (decide ((c6.toNat:Int)<33))=true then some false
 else (idx a1 n4).bind fun c9=>if (decide ((c9.toNat:Int)>126))=true then some false
 else (idx a1 n4).bind fun c12=>if ((c12.toNat:Int)==35)=true then some false
 else j5h F a1 k2 tl1 (n4+1)
def M88(F:Nat)(a1:B8):Option Bool:=
 jn (if (decide ((a1.length:Int)>=1))=true then some (decide ((a1.length:Int)<=100))
 else some false) (fun k2=>if (a1.length:Int)<=9223372036854775807 then j5h F a1 k2 (((a1.length:Int):Int).toNat) 0 else none)
def M86(F:Nat)(a1:(List B8))(a2:Int):Option Int:=
 if (decide (a2>0))=true then (idx a1 a2).bind fun x4=>(idx a1 (w64 (a2 - 1))).bind fun x6=>if (Op.bytesLess x4 x6||x4==x6)=true then some 10
 else some 0
 else some 0
def z9v(F:Nat)(x10:q7d)(k18:Option Int):List B8->Int->Option Int
  |[],n20=>k18
  |x22::tl2,n20=>(M88 F x22).bind fun y24=>if (!y24)=true then some 8
 else (M86 F x10.Methods n20).bind fun y27=>if (y27 != 0)=true then some y27
 else z9v F x10 k18 tl2 (n20+1)
def z9q(F:Nat)(k2:Option Int):List q7d->B8->Option Int
  |[],s5=>k2
  |x10::tl1,s5=>jn (fun(s9:B8)=>z9q F k2 tl1 s9) (fun k8=>(M88 F x10.Name).bind fun y12=>if (!y12)=true then some 8
 else if (Op.bytesLess x10.Name s5||x10.Name==s5)=true then some 10
 else if (((x10.Methods.length:Nat):Int)==0)=true then some 13
 else if (decide (((x10.Methods.length:Nat):Int)>200))=true then some 3
 else jn (k8 x10.Name) (fun k18=>z9v F x10 k18 x10.Methods 0))
def M83(F:Nat)(a1:q1c):Option Int:=
 jn (some 0) (fun k2=>z9q F k2 a1.g.Ifaces ([]:B8))
def z7v(F:Nat)(a1:q1c)(k17:Option Int):List q3j->B8->Option Int
  |[],s20=>k17
  |x23::tl2,s20=>(M88 F x23.Name).bind fun y25=>jn (z7v F a1 k17 tl2 x23.Name) (fun k27=>if (!y25)=true then some 8
 else if (Op.bytesLess x23.Name s20||x23.Name==s20)=true then some 10
 else if (!a1.loose)=true then if (!((q3b a1.n.funcs x23.Func).getD false))=true then some 4
 else k27
 else k27)
def z8v(F:Nat)(a1:q1c)(k2:Option Int):List q6g->B8->Option Int
  |[],s5=>k2
  |x10::tl1,s5=>jn (fun(s9:B8)=>z8v F a1 k2 tl1 s9) (fun k8=>(M88 F x10.Name).bind fun y12=>if (!y12)=true then some 8
 else if (Op.bytesLess x10.Name s5||x10.Name==s5)=true then some 10
 else if (decide (((x10.Methods.length:Nat):Int)>200))=true then some 3
 else jn (k8 x10.Name) (fun k17=>z7v F a1 k17 x10.Methods ([]:B8)))
def M84(F:Nat)(a1:q1c):Option Int:=
 jn (some 0) (fun k2=>z8v F a1 k2 a1.g.Types ([]:B8))
def y0s(F:Nat)(a1:q1c)(a2:q4e):Option Int:=
 jn (if (!(a2.Feature==([]:B8)))=true then (M88 F a2.Feature).bind fun y15=>if (!y15)=true then some 8
 else some 0
 else some 0) (fun k3=>if (a2.Kind==1)=true then if (!a1.loose)=true then if (!((q3b a1.n.funcs a2.Target).getD false))=true then some 4
 else if (!(a2.Method==([]:B8)))=true then some 2
 else k3
 else if (!(a2.Method==([]:B8)))=true then some 2
 else k3
 else if (a2.Kind==2)=true then if ((q3b a1.n.ifaces a2.Target).isSome)=true then if (!a1.loose)=true then if (!((q3b ((q3b a1.n.ifaces a2.Target).getD []) a2.Method).getD false))=true then some 4
 else k3
 else k3
 else if (!a1.loose)=true then some 4
 else k3
 else some 7)
def z5v(F:Nat)(a1:q1c)(x10:q8e)(k30:Option Int):List B8->Int->Option Int
  |[],n32=>k30
  |x35::tl3,n32=>jn (z5v F a1 x10 k30 tl3 (n32+1)) (fun k34=>if (!a1.loose)=true then if (!((q3b a1.n.types x35).getD false))=true then some 4
 else (M86 F x10.Makes n32).bind fun y39=>if (y39 != 0)=true then some y39
 else k34
 else (M86 F x10.Makes n32).bind fun y42=>if (y42 != 0)=true then some y42
 else k34)
def z6v(F:Nat)(a1:q1c)(k20:Option Int):List q4e->Option Int
  |[]=>k20
  |x24::tl2=>(y0s F a1 x24).bind fun y26=>if (y26 != 0)=true then some y26
 else z6v F a1 k20 tl2
def z8q(F:Nat)(a1:q1c)(k2:Option Int):List q8e->B8->Option Int
  |[],s5=>k2
  |x10::tl1,s5=>jn (fun(s9:B8)=>z8q F a1 k2 tl1 s9) (fun k8=>(M88 F x10.Name).bind fun y12=>if (!y12)=true then some 8
 else if (Op.bytesLess x10.Name s5||x10.Name==s5)=true then some 10
 else (M88 F x10.Component).bind fun y16=>if (!y16)=true then some 8
 else if (decide (((x10.Calls.length:Nat):Int)>200))=true then some 3
 else jn (jn (k8 x10.Name) (fun k30=>z5v F a1 x10 k30 x10.Makes 0)) (fun k20=>z6v F a1 k20 x10.Calls))
def M85(F:Nat)(a1:q1c):Option Int:=
 jn (some 0) (fun k2=>z8q F a1 k2 a1.g.Funcs ([]:B8))
def z3x(F:Nat)(a1:q1c)(k14:Option Int):List B8->Int->Option Int
  |[],n16=>k14
  |x19::tl1,n16=>jn (z3x F a1 k14 tl1 (n16+1)) (fun k18=>if (!a1.loose)=true then if (!((q3b a1.n.funcs x19).getD false))=true then some 4
 else (M86 F a1.g.Entries n16).bind fun y23=>if (y23 != 0)=true then some y23
 else k18
 else (M86 F a1.g.Entries n16).bind fun y26=>if (y26 != 0)=true then some y26
 else k18)
def M64(F:Nat)(a1:q1c):Option Int:=
 if (decide (((a1.g.Ifaces.length:Nat):Int)>200))=true then some 3
 else if (decide (((a1.g.Types.length:Nat):Int)>500))=true then some 3
 else if (decide (((a1.g.Funcs.length:Nat):Int)>3000))=true then some 3
 else (M83 F a1).bind fun y5=>if (y5 != 0)=true then some y5
 else (M84 F a1).bind fun y8=>if (y8 != 0)=true then some y8
 else (M85 F a1).bind fun y11=>if (y11 != 0)=true then some y11
 else jn (some 0) (fun k14=>z3x F a1 k14 a1.g.Entries 0)
def M30(F:Nat)(a1:q4c):Option Int:=
 (M63 F a1).bind fun y2=>(M64 F (q1c.mk a1 y2 false)).bind fun y4=>some y4
def j8h(F:Nat)(a2:B8)(k3:Option (q8e×Bool)):List q8e->Option (q8e×Bool)
  |[]=>k3
  |x7::tl1=>if (x7.Name==a2)=true then some (x7,true)
 else j8h F a2 k3 tl1
def M65(F:Nat)(a1:q4c)(a2:B8):Option (q8e×Bool):=
 jn (some ((q8e.mk ([]:B8) ([]:B8) ([]:List q4e) ([]:List B8)),false)) (fun k3=>j8h F a2 k3 a1.Funcs)
def v4m(F:Nat)(a1:q4c)(k13:(List B8)->Option ((List B8)×Int)):List Bool->Int->(List B8)->Option ((List B8)×Int)
  |[],n17,l18=>k13 l18
  |x20::tl1,n17,l18=>jn (fun(l23:List B8)=>v4m F a1 k13 tl1 (n17+1) l23) (fun k22=>if x20=true then (idx a1.Funcs n17).bind fun x25=>if (l18++([x25.Name]:List B8)).length*16<=140737488355328 then k22 (l18++([x25.Name]:List B8)) else none
 else k22 l18)
def M9(F:Nat)(a1:q4c)(a2:Int)(a3:(List B8)):Option ((List B8)×Int):=
 (M34 F a1 a2 a3).bind fun y4=>if ((y4.2) != 0)=true then some (([]:List B8),(y4.2))
 else ((y4.1)).bind fun x7=>(M16 F x7 (-1)).bind fun y9=>(y9).bind fun x11=>jn (fun(l14:List B8)=>some (l14,0)) (fun k13=>v4m F a1 k13 x11.funcs 0 ([]:List B8))
def v1h(F:Nat)(a2:(List B8))(k4:Option Bool):List B8->Int->Option Bool
  |[],n6=>k4
  |x8::tl1,n6=>(idx a2 n6).bind fun x10=>if (!(x8==x10))=true then some false
 else v1h F a2 k4 tl1 (n6+1)
def M33(F:Nat)(a1:(List B8))(a2:(List B8)):Option Bool:=
 if (((a1.length:Nat):Int) != ((a2.length:Nat):Int))=true then some false
 else jn (some true) (fun k4=>v1h F a2 k4 a1 0)
def M8(F:Nat):Option Bool:=
 (M9 F (q4c.mk ([]:List q7d) ([]:List q6g) ([(q8e.mk ([97]:B8) ([120]:B8) ([(q4e.mk 1 ([98]:B8) ([]:B8) ([]:B8))]:List q4e) ([]:List B8)),(q8e.mk ([98]:B8) ([121]:B8) ([]:List q4e) ([]:List B8))]:List q8e) ([([97]:B8)]:List B8)) 1 ([]:(List B8))).bind fun y1=>if ((y1.2)==0)=true then (M33 F (y1.1) ([([97]:B8),([98]:B8)]:List B8)).bind fun y4=>some y4
 else some false
def z1x(F:Nat)(a1:(List B8))(k3:Option Int):List B8->Int->Option Int
  |[],n5=>k3
  |x7::tl1,n5=>(M88 F x7).bind fun y9=>if (!y9)=true then some 8
 else (M86 F a1 n5).bind fun y12=>if (y12 != 0)=true then some y12
 else z1x F a1 k3 tl1 (n5+1)
def M67(F:Nat)(a1:(List B8)):Option Int:=
 if (decide (((a1.length:Nat):Int)>30))=true then some 3
 else jn (some 0) (fun k3=>z1x F a1 k3 a1 0)
def v0h(F:Nat)(a1:q4c)(k13:Option Int):List B8->Option Int
  |[]=>k13
  |x17::tl1=>(M65 F a1 x17).bind fun y19=>if (!(y19.2))=true then some 4
 else v0h F a1 k13 tl1
def j6q(F:Nat)(a1:q4c)(k23:Option Int):List B8->Option Int
  |[]=>k23
  |x27::tl2=>(M65 F a1 x27).bind fun y29=>if (!(y29.2))=true then some 4
 else j6q F a1 k23 tl2
def M36(F:Nat)(a1:q4c)(a2:Int)(a3:(List B8))(a4:(List B8)):Option Int:=
 (M30 F a1).bind fun y5=>if (y5 != 0)=true then some y5
 else (M67 F a3).bind fun y8=>if (y8 != 0)=true then some y8
 else if (a2 != 1)=true then if (a2 != 2)=true then some 7
 else jn (some 0) (fun k13=>v0h F a1 k13 a4)
 else jn (some 0) (fun k23=>j6q F a1 k23 a4)
def j4h(F:Nat)(a2:B8)(k3:Option (q7d×Bool)):List q7d->Option (q7d×Bool)
  |[]=>k3
  |x7::tl1=>if (x7.Name==a2)=true then some (x7,true)
 else j4h F a2 k3 tl1
def M90(F:Nat)(a1:q4c)(a2:B8):Option (q7d×Bool):=
 jn (some ((q7d.mk ([]:B8) ([]:List B8)),false)) (fun k3=>j4h F a2 k3 a1.Ifaces)
def j3h(F:Nat)(a2:B8)(k3:Option (B8×Bool)):List q3j->Option (B8×Bool)
  |[]=>k3
  |x7::tl1=>if (x7.Name==a2)=true then some (x7.Func,true)
 else j3h F a2 k3 tl1
def M91(F:Nat)(a1:q6g)(a2:B8):Option (B8×Bool):=
 jn (some (([]:B8),false)) (fun k3=>j3h F a2 k3 a1.Methods)
def j2h(F:Nat)(a1:q6g)(k3:Option Bool):List B8->Option Bool
  |[]=>k3
  |x7::tl1=>(M91 F a1 x7).bind fun y9=>if (!(y9.2))=true then some false
 else j2h F a1 k3 tl1
def M92(F:Nat)(a1:q6g)(a2:q7d):Option Bool:=
 jn (some true) (fun k3=>j2h F a1 k3 a2.Methods)
def z0x(F:Nat)(a2:q4e)(y4:(q7d×Bool))(k6:(List q8a)->Option (List q8a)):List q6g->(List q8a)->Option (List q8a)
  |[],l11=>k6 l11
  |x15::tl1,l11=>jn (fun(l14:List q8a)=>z0x F a2 y4 k6 tl1 l14) (fun k13=>(M91 F x15 a2.Method).bind fun y17=>if (y17.2)=true then (M92 F x15 (y4.1)).bind fun y20=>jn (fun(l23:List q8a)=>k13 l23) (fun k22=>if y20=true then if (l11++([(q8a.mk x15.Name (y17.1))]:List q8a)).length*32<=140737488355328 then k22 (l11++([(q8a.mk x15.Name (y17.1))]:List q8a)) else none
 else k22 l11)
 else k13 l11)
def M69(F:Nat)(a1:q4c)(a2:q4e):Option (List q8a):=
 if (a2.Kind==1)=true then some ([(q8a.mk ([]:B8) a2.Target)]:List q8a)
 else (M90 F a1 a2.Target).bind fun y4=>jn (fun(l7:List q8a)=>some l7) (fun k6=>z0x F a2 y4 k6 a1.Types ([]:List q8a))
def z7x(F:Nat)(a1:q4c)(m4:List (B8×Bool))(x29:q8e)(k31:(List (q4e×(List q8a)))->(List (B8×(List q1a)))->Option q1d):List q4e->Int->(List (q4e×(List q8a)))->(List (B8×(List q1a)))->Option q1d
  |[],n37,m38,m39=>k31 m38 m39
  |x44::tl3,n37,m38,m39=>jn (fun(m42:List (q4e×(List q8a))) (m43:List (B8×(List q1a)))=>z7x F a1 m4 x29 k31 tl3 (n37+1) m42 m43) (fun k41=>if (!((q3b m4 x44.Feature).getD false))=true then k41 m38 m39
 else jn (fun(l48:List q8a) (m49:List (q4e×(List q8a)))=>if (((q3b m39 x29.Name).getD [])++([(q1a.mk (q1b.mk x29.Name n37) l48)]:List q1a)).length*48<=140737488355328 then k41 m49 (q0d m39 x29.Name (((q3b m39 x29.Name).getD [])++([(q1a.mk (q1b.mk x29.Name n37) l48)]:List q1a))) else none) (fun k47=>if (!((q3b m38 (q4e.mk x44.Kind x44.Target x44.Method ([]:B8))).isSome))=true then (M69 F a1 x44).bind fun y51=>k47 y51 (q0d m38 (q4e.mk x44.Kind x44.Target x44.Method ([]:B8)) y51)
 else k47 ((q3b m38 (q4e.mk x44.Kind x44.Target x44.Method ([]:B8))).getD ([]:(List q8a))) m38))
def z8x(F:Nat)(a1:q4c)(m4:List (B8×Bool))(k13:(List (B8×(List q1a)))->(List (B8×q8e))->Option q1d):List q8e->(List (q4e×(List q8a)))->(List (B8×(List q1a)))->(List (B8×q8e))->Option q1d
 |[],m21,m22,m23=>k13 m22 m23
 |x29::tl2,m21,m22,m23=>jn (fun(m26:List (q4e×(List q8a))) (m27:List (B8×(List q1a))) (m28:List (B8×q8e))=>z8x F a1 m4 k13 tl2 m26 m27 m28) (fun k25=>jn (fun(m32:List (q4e×(List q8a))) (m33:List (B8×(List q1a)))=>k25 m32 m33 (q0d m23 x29.Name x29)) (fun k31=>z7x F a1 m4 x29 k31 x29.Calls 0 m21 m22))
def j1j(F:Nat)(k3:(List (B8×Bool))->Option q1d):List B8->(List (B8×Bool))->Option q1d
 |[],m8=>k3 m8
 |x10::tl1,m8=>j1j F k3 tl1 (q0d m8 x10 true)
def M38(F:Nat)(a1:q4c)(a2:(List B8)):Option q1d:=
 jn (fun(m4:List (B8×Bool))=>jn (fun(m14:List (B8×(List q1a))) (m15:List (B8×q8e))=>some (q1d.mk a1 m14 m15)) (fun k13=>z8x F a1 m4 k13 a1.Funcs ([]:List (q4e×(List q8a))) ([]:List (B8×(List q1a))) ([]:List (B8×q8e)))) (fun k3=>j1j F k3 a2 (q0d ([]:List (B8×Bool)) ([]:B8) true))
def q8p(F:Nat)(k9:(List B8)->Option (List B8)):Nat->(List B8)->(List B8)->(List B8)->Option (List B8)
 |0,_,_,_=>none
 |n+1,l14,l15,l16=>if (decide (((l14.length:Nat):Int)>0))=true then if (((l15.length:Nat):Int)==0)=true then (idx l14 0).bind fun x19=>if (l16++([x19]:List B8)).length*16<=140737488355328 then if 1<=l14.length then q8p F k9 n (l14.drop 1) l15 (l16++([x19]:List B8)) else none else none
 else (idx l14 0).bind fun x23=>(idx l15 0).bind fun x25=>jn (fun(l28:List B8) (l29:List B8) (l30:List B8)=>q8p F k9 n l28 l29 l30) (fun k27=>if (Op.bytesLess x23 x25||x23==x25)=true then (idx l14 0).bind fun x32=>if (l16++([x32]:List B8)).length*16<=140737488355328 then if 1<=l14.length then k27 (l14.drop 1) l15 (l16++([x32]:List B8)) else none else none
 else (idx l15 0).bind fun x36=>if (l16++([x36]:List B8)).length*16<=140737488355328 then if 1<=l15.length then k27 l14 (l15.drop 1) (l16++([x36]:List B8)) else none else none)
 else if (decide (((l15.length:Nat):Int)>0))=true then if (((l15.length:Nat):Int)==0)=true then (idx l14 0).bind fun x42=>if (l16++([x42]:List B8)).length*16<=140737488355328 then if 1<=l14.length then q8p F k9 n (l14.drop 1) l15 (l16++([x42]:List B8)) else none else none
 else (idx l15 0).bind fun x46=>if (l16++([x46]:List B8)).length*16<=140737488355328 then if 1<=l15.length then q8p F k9 n l14 (l15.drop 1) (l16++([x46]:List B8)) else none else none
 else k9 l16
def v6s(R127:(List B8)->Option (List B8))(F:Nat)(a1:(List B8)):Option (List B8):=
 if (decide (((a1.length:Nat):Int)<2))=true then some a1
 else if 0<=(w64 (Int.tdiv ((a1.length:Nat):Int) 2))/\(w64 (Int.tdiv ((a1.length:Nat):Int) 2)).toNat<=a1.length then (R127 (a1.take (w64 (Int.tdiv ((a1.length:Nat):Int) 2)).toNat)).bind fun y4=>if 0<=(w64 (Int.tdiv ((a1.length:Nat):Int) 2))/\(w64 (Int.tdiv ((a1.length:Nat):Int) 2)).toNat<=a1.length then (R127 (a1.drop (w64 (Int.tdiv ((a1.length:Nat):Int) 2)).toNat)).bind fun y7=>jn (fun(l10:List B8)=>some l10) (fun k9=>q8p F k9 F y4 y7 ([]:List B8)) else none else none
def w3i:Nat->(List B8)->Option (List B8)
 |0,_=>none
 |F+1,a1=>v6s (w3i F) F a1
def z3l(F:Nat):List (B8×Bool)->(List B8)->Option (List B8)
 |[],l4=>(w3i F l4).bind fun y9=>some y9
 |e6::l7,l4=>if (l4++([e6.1]:List B8)).length*16<=140737488355328 then z3l F l7 (l4++([e6.1]:List B8)) else none
def M89(F:Nat)(a1:(List (B8×Bool))):Option (List B8):=
 z3l F a1 ([]:List B8)
def j7h(F:Nat)(k2:(List (B8×Bool))->Option (List B8)):List q8a->(List (B8×Bool))->Option (List B8)
 |[],m7=>k2 m7
 |x9::tl1,m7=>j7h F k2 tl1 (q0d m7 x9.to true)
def M68(F:Nat)(a1:q1a):Option (List B8):=
 jn (fun(m3:List (B8×Bool))=>(M89 F m3).bind fun y12=>some y12) (fun k2=>j7h F k2 a1.aims ([]:List (B8×Bool)))
def j2j(F:Nat)(x60:q1a)(k64:(List (B8×(List q1b)))->Option (List (B8×(List q1b)))):List B8->(List (B8×(List q1b)))->Option (List (B8×(List q1b)))
 |[],m69=>k64 m69
 |x71::tl3,m69=>if (((q3b m69 x71).getD [])++([x60.site]:List q1b)).length*24<=140737488355328 then j2j F x60 k64 tl3 (q0d m69 x71 (((q3b m69 x71).getD [])++([x60.site]:List q1b))) else none
def z9x(F:Nat)(k51:(List (B8×(List q1b)))->Option (List (B8×(List q1b)))):List q1a->(List (B8×(List q1b)))->Option (List (B8×(List q1b)))
 |[],m56=>k51 m56
 |x60::tl2,m56=>jn (fun(m59:List (B8×(List q1b)))=>z9x F k51 tl2 m59) (fun k58=>(M68 F x60).bind fun y62=>jn (fun(m65:List (B8×(List q1b)))=>k58 m65) (fun k64=>j2j F x60 k64 y62 m56))
def z0y(F:Nat)(a1:q1d)(k40:(List (B8×(List q1b)))->Option (List (B8×(List q1b)))):List q8e->(List (B8×(List q1b)))->Option (List (B8×(List q1b)))
 |[],m45=>k40 m45
 |x49::tl1,m45=>jn (fun(m48:List (B8×(List q1b)))=>z0y F a1 k40 tl1 m48) (fun k47=>jn (fun(m52:List (B8×(List q1b)))=>k47 m52) (fun k51=>z9x F k51 ((q3b a1.links x49.Name).getD ([]:(List q1a))) m45))
def M37(F:Nat)(a1:q1d):Option (List (B8×(List q1b))):=
 jn (fun(m41:List (B8×(List q1b)))=>some m41) (fun k40=>z0y F a1 k40 a1.g.Funcs ([]:List (B8×(List q1b))))
def M40(F:Nat)(a1:B8):Option q0a:=
 some (q0a.mk a1 (-1) false)
def M42(F:Nat)(a1:q1b):Option q0a:=
 some (q0a.mk a1.Func a1.Call false)
def M43(F:Nat)(a1:q1b):Option q0a:=
 some (q0a.mk a1.Func a1.Call true)
def j1h(F:Nat)(a2:q0a)(k3:Option q1a):List q1a->Option q1a
  |[]=>k3
  |x7::tl1=>if (x7.site.Call==a2.call)=true then some x7
 else j1h F a2 k3 tl1
def M93(F:Nat)(a1:q9c)(a2:q0a):Option q1a:=
 jn (some (q1a.mk (q1b.mk ([]:B8) 0) ([]:List q8a))) (fun k3=>j1h F a2 k3 ((q3b a1.n.links a2.name).getD ([]:(List q1a))))
def z8w(F:Nat)(a1:q9c)(a2:q0a)(k17:(List q0a)->Option (List q0a)):List q1b->(List q0a)->Option (List q0a)
  |[],l22=>k17 l22
  |x26::tl2,l22=>jn (fun(l25:List q0a)=>z8w F a1 a2 k17 tl2 l25) (fun k24=>(M43 F x26).bind fun y28=>if ((q3b a1.units y28).isSome)=true then jn (fun(l32:List q0a)=>k24 l32) (fun k31=>if (decide (((q3b ((q3b a1.units y28).getD []) a2).getD 0)>0))=true then (M43 F x26).bind fun y34=>if (l22++([y34]:List q0a)).length*32<=140737488355328 then k31 (l22++([y34]:List q0a)) else none
 else k31 l22)
 else jn (fun(l38:List q0a)=>k24 l38) (fun k37=>if (decide (0>0))=true then (M43 F x26).bind fun y40=>if (l22++([y40]:List q0a)).length*32<=140737488355328 then k37 (l22++([y40]:List q0a)) else none
 else k37 l22))
def z9w(F:Nat)(k4:(List q0a)->Option (List q0a)):List q1a->(List q0a)->Option (List q0a)
 |[],l9=>k4 l9
 |x11::tl1,l9=>(M42 F x11.site).bind fun y13=>if (l9++([y13]:List q0a)).length*32<=140737488355328 then z9w F k4 tl1 (l9++([y13]:List q0a)) else none
def z7w(F:Nat)(k70:(List q0a)->Option (List q0a)):List B8->(List q0a)->Option (List q0a)
 |[],l75=>k70 l75
 |x77::tl3,l75=>(M40 F x77).bind fun y79=>if (l75++([y79]:List q0a)).length*32<=140737488355328 then z7w F k70 tl3 (l75++([y79]:List q0a)) else none
def M70(F:Nat)(a1:q9c)(a2:q0a):Option (List q0a):=
 if (decide (a2.call<0))=true then jn (fun(l5:List q0a)=>jn (fun(l18:List q0a)=>some l18) (fun k17=>z8w F a1 a2 k17 ((q3b a1.back a2.name).getD ([]:(List q1b))) l5)) (fun k4=>z9w F k4 ((q3b a1.n.links a2.name).getD ([]:(List q1a))) ([]:List q0a))
 else if (!a2.end_)=true then jn (fun(l46:List q0a)=>(M40 F a2.name).bind fun y51=>if ((q3b a1.units y51).isSome)=true then jn (fun(l55:List q0a)=>some l55) (fun k54=>if (decide (((q3b ((q3b a1.units y51).getD []) a2).getD 0)>0))=true then (M40 F a2.name).bind fun y57=>if (l46++([y57]:List q0a)).length*32<=140737488355328 then k54 (l46++([y57]:List q0a)) else none
 else k54 l46)
 else jn (fun(l61:List q0a)=>some l61) (fun k60=>if (decide (0>0))=true then (M40 F a2.name).bind fun y63=>if (l46++([y63]:List q0a)).length*32<=140737488355328 then k60 (l46++([y63]:List q0a)) else none
 else k60 l46)) (fun k45=>if (!((q3b a1.used (q1b.mk a2.name a2.call)).getD false))=true then (M43 F (q1b.mk a2.name a2.call)).bind fun y48=>if (([]:List q0a)++([y48]:List q0a)).length*32<=140737488355328 then k45 (([]:List q0a)++([y48]:List q0a)) else none
 else k45 ([]:List q0a))
 else (M93 F a1 a2).bind fun y66=>(M68 F y66).bind fun y68=>jn (fun(l71:List q0a)=>jn (fun(l84:List q0a)=>some l84) (fun k83=>if ((q3b a1.used (q1b.mk a2.name a2.call)).getD false)=true then (M42 F (q1b.mk a2.name a2.call)).bind fun y86=>if (l71++([y86]:List q0a)).length*32<=140737488355328 then k83 (l71++([y86]:List q0a)) else none
 else k83 l71)) (fun k70=>z7w F k70 y68 ([]:List q0a))
def j8i(F:Nat)(n84:Int)(k95:(List (q0a×q0a))->(List q0a)->Option (List (q0a×q0a))):List q0a->(List (q0a×q0a))->(List q0a)->Option (List (q0a×q0a))
  |[],m102,l103=>k95 m102 l103
  |x105::tl3,m102,l103=>jn (fun(m108:List (q0a×q0a)) (l109:List q0a)=>j8i F n84 k95 tl3 m108 l109) (fun k107=>if (!((q3b m102 x105).isSome))=true then (idx l103 n84).bind fun x111=>if (l103++([x105]:List q0a)).length*32<=140737488355328 then k107 (q0d m102 x105 x111) (l103++([x105]:List q0a)) else none
 else k107 m102 l103)
def z4r(F:Nat)(a1:q9c)(k79:(List (q0a×q0a))->Option (List (q0a×q0a))):Nat->Int->(List (q0a×q0a))->(List q0a)->Option (List (q0a×q0a))
 |0,_,_,_=>none
 |n+1,n84,m85,l86=>if (decide (n84<((l86.length:Nat):Int)))=true then jn (fun(m89:List (q0a×q0a)) (l90:List q0a)=>z4r F a1 k79 n (w64 (n84+1)) m89 l90) (fun k88=>(idx l86 n84).bind fun x91=>(M70 F a1 x91).bind fun y93=>jn (fun(m96:List (q0a×q0a)) (l97:List q0a)=>k88 m96 l97) (fun k95=>j8i F n84 k95 y93 m85 l86))
 else k79 m85
def j9i(F:Nat)(k59:(List (q0a×q0a))->(List q0a)->Option (List (q0a×q0a))):List B8->(List (q0a×q0a))->(List q0a)->Option (List (q0a×q0a))
 |[],m66,l67=>k59 m66 l67
 |x69::tl1,m66,l67=>(M40 F x69).bind fun y71=>(M40 F x69).bind fun y73=>(M40 F x69).bind fun y75=>if (l67++([y75]:List q0a)).length*32<=140737488355328 then j9i F k59 tl1 (q0d m66 y71 y73) (l67++([y75]:List q0a)) else none
def M39(F:Nat)(a1:q9c):Option (List (q0a×q0a)):=
 jn (fun(m60:List (q0a×q0a)) (l61:List q0a)=>jn (fun(m80:List (q0a×q0a))=>some m80) (fun k79=>z4r F a1 k79 F 0 m60 l61)) (fun k59=>j9i F k59 a1.n.g.Entries ([]:List (q0a×q0a)) ([]:List q0a))
def M41(F:Nat)(a1:q0a)(a2:q0a)(a3:(List q7d))(a4:(List q6g))(a5:(List q8e))(a6:(List B8))(a7:(List (B8×(List q1a))))(a8:(List (B8×q8e)))(a9:(List (B8×(List q1b))))(a10:List (q1b×Bool))(a11:List (q0a×(List (q0a×Int)))):Option ((List (q1b×Bool))×(List (q0a×(List (q0a×Int))))):=
 if (decide (a1.call>=0))=true then if (a2.call==a1.call)=true then if (a1.name==a2.name)=true then if (a1.end_ != a2.end_)=true then some ((q0d a10 (q1b.mk a1.name a1.call) a2.end_),a11)
 else if ((q3b a11 a2).isSome)=true then if (decide (((q3b ((q3b a11 a2).getD []) a1).getD 0)>0))=true then if ((q3b (q0d a11 a2 ((q3b a11 a2).getD [])) a2).isSome)=true then some (a10,(q0d (q0d a11 a2 ((q3b a11 a2).getD [])) a2 (q0d ((q3b (q0d a11 a2 ((q3b a11 a2).getD [])) a2).getD []) a1 (w64 (((q3b ((q3b (q0d a11 a2 ((q3b a11 a2).getD [])) a2).getD []) a1).getD 0) - 1)))))
 else none
 else if ((q3b (q0d a11 a2 ((q3b a11 a2).getD [])) a1).isSome)=true then if ((q3b (q0d (q0d a11 a2 ((q3b a11 a2).getD [])) a1 ((q3b (q0d a11 a2 ((q3b a11 a2).getD [])) a1).getD [])) a1).isSome)=true then some (a10,(q0d (q0d (q0d a11 a2 ((q3b a11 a2).getD [])) a1 ((q3b (q0d a11 a2 ((q3b a11 a2).getD [])) a1).getD [])) a1 (q0d ((q3b (q0d (q0d a11 a2 ((q3b a11 a2).getD [])) a1 ((q3b (q0d a11 a2 ((q3b a11 a2).getD [])) a1).getD [])) a1).getD []) a2 (w64 (((q3b ((q3b (q0d (q0d a11 a2 ((q3b a11 a2).getD [])) a1 ((q3b (q0d a11 a2 ((q3b a11 a2).getD [])) a1).getD [])) a1).getD []) a2).getD 0)+1)))))
 else none
 else if ((q3b (q0d (q0d a11 a2 ((q3b a11 a2).getD [])) a1 ([]:List (q0a×Int))) a1).isSome)=true then some (a10,(q0d (q0d (q0d a11 a2 ((q3b a11 a2).getD [])) a1 ([]:List (q0a×Int))) a1 (q0d ((q3b (q0d (q0d a11 a2 ((q3b a11 a2).getD [])) a1 ([]:List (q0a×Int))) a1).getD []) a2 (w64 (((q3b ((q3b (q0d (q0d a11 a2 ((q3b a11 a2).getD [])) a1 ([]:List (q0a×Int))) a1).getD []) a2).getD 0)+1)))))
 else none
 else if (decide (0>0))=true then none
 else if ((q3b a11 a1).isSome)=true then if ((q3b (q0d a11 a1 ((q3b a11 a1).getD [])) a1).isSome)=true then some (a10,(q0d (q0d a11 a1 ((q3b a11 a1).getD [])) a1 (q0d ((q3b (q0d a11 a1 ((q3b a11 a1).getD [])) a1).getD []) a2 (w64 (((q3b ((q3b (q0d a11 a1 ((q3b a11 a1).getD [])) a1).getD []) a2).getD 0)+1)))))
 else none
 else if ((q3b (q0d a11 a1 ([]:List (q0a×Int))) a1).isSome)=true then some (a10,(q0d (q0d a11 a1 ([]:List (q0a×Int))) a1 (q0d ((q3b (q0d a11 a1 ([]:List (q0a×Int))) a1).getD []) a2 (w64 (((q3b ((q3b (q0d a11 a1 ([]:List (q0a×Int))) a1).getD []) a2).getD 0)+1)))))
 else none
 else if ((q3b a11 a2).isSome)=true then if (decide (((q3b ((q3b a11 a2).getD []) a1).getD 0)>0))=true then if ((q3b (q0d a11 a2 ((q3b a11 a2).getD [])) a2).isSome)=true then some (a10,(q0d (q0d a11 a2 ((q3b a11 a2).getD [])) a2 (q0d ((q3b (q0d a11 a2 ((q3b a11 a2).getD [])) a2).getD []) a1 (w64 (((q3b ((q3b (q0d a11 a2 ((q3b a11 a2).getD [])) a2).getD []) a1).getD 0) - 1)))))
 else none
 else if ((q3b (q0d a11 a2 ((q3b a11 a2).getD [])) a1).isSome)=true then if ((q3b (q0d (q0d a11 a2 ((q3b a11 a2).getD [])) a1 ((q3b (q0d a11 a2 ((q3b a11 a2).getD [])) a1).getD [])) a1).isSome)=true then some (a10,(q0d (q0d (q0d a11 a2 ((q3b a11 a2).getD [])) a1 ((q3b (q0d a11 a2 ((q3b a11 a2).getD [])) a1).getD [])) a1 (q0d ((q3b (q0d (q0d a11 a2 ((q3b a11 a2).getD [])) a1 ((q3b (q0d a11 a2 ((q3b a11 a2).getD [])) a1).getD [])) a1).getD []) a2 (w64 (((q3b ((q3b (q0d (q0d a11 a2 ((q3b a11 a2).getD [])) a1 ((q3b (q0d a11 a2 ((q3b a11 a2).getD [])) a1).getD [])) a1).getD []) a2).getD 0)+1)))))
 else none
 else if ((q3b (q0d (q0d a11 a2 ((q3b a11 a2).getD [])) a1 ([]:List (q0a×Int))) a1).isSome)=true then some (a10,(q0d (q0d (q0d a11 a2 ((q3b a11 a2).getD [])) a1 ([]:List (q0a×Int))) a1 (q0d ((q3b (q0d (q0d a11 a2 ((q3b a11 a2).getD [])) a1 ([]:List (q0a×Int))) a1).getD []) a2 (w64 (((q3b ((q3b (q0d (q0d a11 a2 ((q3b a11 a2).getD [])) a1 ([]:List (q0a×Int))) a1).getD []) a2).getD 0)+1)))))
 else none
 else if (decide (0>0))=true then none
 else if ((q3b a11 a1).isSome)=true then if ((q3b (q0d a11 a1 ((q3b a11 a1).getD [])) a1).isSome)=true then some (a10,(q0d (q0d a11 a1 ((q3b a11 a1).getD [])) a1 (q0d ((q3b (q0d a11 a1 ((q3b a11 a1).getD [])) a1).getD []) a2 (w64 (((q3b ((q3b (q0d a11 a1 ((q3b a11 a1).getD [])) a1).getD []) a2).getD 0)+1)))))
 else none
 else if ((q3b (q0d a11 a1 ([]:List (q0a×Int))) a1).isSome)=true then some (a10,(q0d (q0d a11 a1 ([]:List (q0a×Int))) a1 (q0d ((q3b (q0d a11 a1 ([]:List (q0a×Int))) a1).getD []) a2 (w64 (((q3b ((q3b (q0d a11 a1 ([]:List (q0a×Int))) a1).getD []) a2).getD 0)+1)))))
 else none
 else if ((q3b a11 a2).isSome)=true then if (decide (((q3b ((q3b a11 a2).getD []) a1).getD 0)>0))=true then if ((q3b (q0d a11 a2 ((q3b a11 a2).getD [])) a2).isSome)=true then some (a10,(q0d (q0d a11 a2 ((q3b a11 a2).getD [])) a2 (q0d ((q3b (q0d a11 a2 ((q3b a11 a2).getD [])) a2).getD []) a1 (w64 (((q3b ((q3b (q0d a11 a2 ((q3b a11 a2).getD [])) a2).getD []) a1).getD 0) - 1)))))
 else none
 else if ((q3b (q0d a11 a2 ((q3b a11 a2).getD [])) a1).isSome)=true then if ((q3b (q0d (q0d a11 a2 ((q3b a11 a2).getD [])) a1 ((q3b (q0d a11 a2 ((q3b a11 a2).getD [])) a1).getD [])) a1).isSome)=true then some (a10,(q0d (q0d (q0d a11 a2 ((q3b a11 a2).getD [])) a1 ((q3b (q0d a11 a2 ((q3b a11 a2).getD [])) a1).getD [])) a1 (q0d ((q3b (q0d (q0d a11 a2 ((q3b a11 a2).getD [])) a1 ((q3b (q0d a11 a2 ((q3b a11 a2).getD [])) a1).getD [])) a1).getD []) a2 (w64 (((q3b ((q3b (q0d (q0d a11 a2 ((q3b a11 a2).getD [])) a1 ((q3b (q0d a11 a2 ((q3b a11 a2).getD [])) a1).getD [])) a1).getD []) a2).getD 0)+1)))))
 else none
 else if ((q3b (q0d (q0d a11 a2 ((q3b a11 a2).getD [])) a1 ([]:List (q0a×Int))) a1).isSome)=true then some (a10,(q0d (q0d (q0d a11 a2 ((q3b a11 a2).getD [])) a1 ([]:List (q0a×Int))) a1 (q0d ((q3b (q0d (q0d a11 a2 ((q3b a11 a2).getD [])) a1 ([]:List (q0a×Int))) a1).getD []) a2 (w64 (((q3b ((q3b (q0d (q0d a11 a2 ((q3b a11 a2).getD [])) a1 ([]:List (q0a×Int))) a1).getD []) a2).getD 0)+1)))))
 else none
 else if (decide (0>0))=true then none
 else if ((q3b a11 a1).isSome)=true then if ((q3b (q0d a11 a1 ((q3b a11 a1).getD [])) a1).isSome)=true then some (a10,(q0d (q0d a11 a1 ((q3b a11 a1).getD [])) a1 (q0d ((q3b (q0d a11 a1 ((q3b a11 a1).getD [])) a1).getD []) a2 (w64 (((q3b ((q3b (q0d a11 a1 ((q3b a11 a1).getD [])) a1).getD []) a2).getD 0)+1)))))
 else none
 else if ((q3b (q0d a11 a1 ([]:List (q0a×Int))) a1).isSome)=true then some (a10,(q0d (q0d a11 a1 ([]:List (q0a×Int))) a1 (q0d ((q3b (q0d a11 a1 ([]:List (q0a×Int))) a1).getD []) a2 (w64 (((q3b ((q3b (q0d a11 a1 ([]:List (q0a×Int))) a1).getD []) a2).getD 0)+1)))))
 else none
 else if ((q3b a11 a2).isSome)=true then if (decide (((q3b ((q3b a11 a2).getD []) a1).getD 0)>0))=true then if ((q3b (q0d a11 a2 ((q3b a11 a2).getD [])) a2).isSome)=true then some (a10,(q0d (q0d a11 a2 ((q3b a11 a2).getD [])) a2 (q0d ((q3b (q0d a11 a2 ((q3b a11 a2).getD [])) a2).getD []) a1 (w64 (((q3b ((q3b (q0d a11 a2 ((q3b a11 a2).getD [])) a2).getD []) a1).getD 0) - 1)))))
 else none
 else if ((q3b (q0d a11 a2 ((q3b a11 a2).getD [])) a1).isSome)=true then if ((q3b (q0d (q0d a11 a2 ((q3b a11 a2).getD [])) a1 ((q3b (q0d a11 a2 ((q3b a11 a2).getD [])) a1).getD [])) a1).isSome)=true then some (a10,(q0d (q0d (q0d a11 a2 ((q3b a11 a2).getD [])) a1 ((q3b (q0d a11 a2 ((q3b a11 a2).getD [])) a1).getD [])) a1 (q0d ((q3b (q0d (q0d a11 a2 ((q3b a11 a2).getD [])) a1 ((q3b (q0d a11 a2 ((q3b a11 a2).getD [])) a1).getD [])) a1).getD []) a2 (w64 (((q3b ((q3b (q0d (q0d a11 a2 ((q3b a11 a2).getD [])) a1 ((q3b (q0d a11 a2 ((q3b a11 a2).getD [])) a1).getD [])) a1).getD []) a2).getD 0)+1)))))
 else none
 else if ((q3b (q0d (q0d a11 a2 ((q3b a11 a2).getD [])) a1 ([]:List (q0a×Int))) a1).isSome)=true then some (a10,(q0d (q0d (q0d a11 a2 ((q3b a11 a2).getD [])) a1 ([]:List (q0a×Int))) a1 (q0d ((q3b (q0d (q0d a11 a2 ((q3b a11 a2).getD [])) a1 ([]:List (q0a×Int))) a1).getD []) a2 (w64 (((q3b ((q3b (q0d (q0d a11 a2 ((q3b a11 a2).getD [])) a1 ([]:List (q0a×Int))) a1).getD []) a2).getD 0)+1)))))
 else none
 else if (decide (0>0))=true then none
 else if ((q3b a11 a1).isSome)=true then if ((q3b (q0d a11 a1 ((q3b a11 a1).getD [])) a1).isSome)=true then some (a10,(q0d (q0d a11 a1 ((q3b a11 a1).getD [])) a1 (q0d ((q3b (q0d a11 a1 ((q3b a11 a1).getD [])) a1).getD []) a2 (w64 (((q3b ((q3b (q0d a11 a1 ((q3b a11 a1).getD [])) a1).getD []) a2).getD 0)+1)))))
 else none
 else if ((q3b (q0d a11 a1 ([]:List (q0a×Int))) a1).isSome)=true then some (a10,(q0d (q0d a11 a1 ([]:List (q0a×Int))) a1 (q0d ((q3b (q0d a11 a1 ([]:List (q0a×Int))) a1).getD []) a2 (w64 (((q3b ((q3b (q0d a11 a1 ([]:List (q0a×Int))) a1).getD []) a2).getD 0)+1)))))
 else none
def z7y(F:Nat)(y50:(List (q0a×q0a)))(k63:(List q1b)->Option ((List q1b)×Bool×Int)):List q1a->(List q1b)->Option ((List q1b)×Bool×Int)
  |[],l68=>k63 l68
  |x72::tl5,l68=>jn (fun(l71:List q1b)=>z7y F y50 k63 tl5 l71) (fun k70=>(M42 F x72.site).bind fun y74=>(M43 F x72.site).bind fun y76=>if ((q3b y50 y74).isSome)=true then jn (fun(l80:List q1b)=>k70 l80) (fun k79=>if (!((q3b y50 y76).isSome))=true then if (l68++([x72.site]:List q1b)).length*24<=140737488355328 then k79 (l68++([x72.site]:List q1b)) else none
 else k79 l68)
 else k70 l68)
def z6r(F:Nat)(y15:q1d)(y50:(List (q0a×q0a)))(k52:(List q1b)->Option ((List q1b)×Bool×Int)):List q8e->(List q1b)->Option ((List q1b)×Bool×Int)
 |[],l57=>k52 l57
 |x61::tl4,l57=>jn (fun(l60:List q1b)=>z6r F y15 y50 k52 tl4 l60) (fun k59=>jn (fun(l64:List q1b)=>k59 l64) (fun k63=>z7y F y50 k63 ((q3b y15.links x61.Name).getD ([]:(List q1a))) l57))
def j4k(F:Nat)(y15:q1d)(y17:(List (B8×(List q1b))))(y29:(List (q0a×q0a)))(k34:(List (q1b×Bool))->(List (q0a×(List (q0a×Int))))->Option ((List q1b)×Bool×Int)):Nat->B8->Int->Bool->(List (q1b×Bool))->(List (q0a×(List (q0a×Int))))->Option ((List q1b)×Bool×Int)
 |0,_,_,_,_,_=>none
 |n+1,s42,n43,b44,m45,m46=>if (!(decide (((q3b y29 (q0a.mk s42 n43 b44)).getD (q0a.mk ([]:B8) 0 false))=(q0a.mk s42 n43 b44))))=true then (M41 F ((q3b y29 (q0a.mk s42 n43 b44)).getD (q0a.mk ([]:B8) 0 false)) (q0a.mk s42 n43 b44) y15.g.Ifaces y15.g.Types y15.g.Funcs y15.g.Entries y15.links y15.funcs y17 m45 m46).bind fun y48=>j4k F y15 y17 y29 k34 n (((q3b y29 (q0a.mk s42 n43 b44)).getD (q0a.mk ([]:B8) 0 false)).name) (((q3b y29 (q0a.mk s42 n43 b44)).getD (q0a.mk ([]:B8) 0 false)).call) (((q3b y29 (q0a.mk s42 n43 b44)).getD (q0a.mk ([]:B8) 0 false)).end_) (y48.1) (y48.2)
 else k34 m45 m46
def z8y(F:Nat)(a3:B8)(y15:q1d)(y17:(List (B8×(List q1b))))(k19:(List (q1b×Bool))->(List (q0a×(List (q0a×Int))))->Option ((List q1b)×Bool×Int)):Nat->(List (q1b×Bool))->(List (q0a×(List (q0a×Int))))->Option ((List q1b)×Bool×Int)
 |0,_,_=>none
 |n+1,m24,m25=>jn (fun(m27:List (q1b×Bool)) (m28:List (q0a×(List (q0a×Int))))=>z8y F a3 y15 y17 k19 n m27 m28) (fun k26=>(M39 F (q9c.mk y15 m24 m25 y17)).bind fun y29=>(M40 F a3).bind fun y31=>if (!((q3b y29 y31).isSome))=true then k19 m24 m25
 else jn (fun(m35:List (q1b×Bool)) (m36:List (q0a×(List (q0a×Int))))=>k26 m35 m36) (fun k34=>j4k F y15 y17 y29 k34 F y31.name y31.call y31.end_ m24 m25))
def z9y(F:Nat)(a3:B8)(k7:Option ((List q1b)×Bool×Int)):List B8->Option ((List q1b)×Bool×Int)
  |[]=>k7
  |x11::tl1=>if (x11==a3)=true then some (([]:List q1b),false,0)
 else z9y F a3 k7 tl1
def M11(F:Nat)(a1:q4c)(a2:(List B8))(a3:B8):Option ((List q1b)×Bool×Int):=
 (M36 F a1 1 a2 ([a3]:List B8)).bind fun y4=>if (y4 != 0)=true then some (([]:List q1b),false,y4)
 else jn ((M38 F a1 a2).bind fun y15=>(M37 F y15).bind fun y17=>jn (fun(m20:List (q1b×Bool)) (m21:List (q0a×(List (q0a×Int))))=>(M39 F (q9c.mk y15 m20 m21 y17)).bind fun y50=>jn (fun(l53:List q1b)=>some (l53,true,0)) (fun k52=>z6r F y15 y50 k52 a1.Funcs ([]:List q1b))) (fun k19=>z8y F a3 y15 y17 k19 F ([]:List (q1b×Bool)) ([]:List (q0a×(List (q0a×Int)))))) (fun k7=>z9y F a3 k7 a1.Entries)
def j2k(F:Nat)(a2:(List q1b))(k4:Option Bool):List q1b->Int->Option Bool
  |[],n6=>k4
  |x8::tl1,n6=>(idx a2 n6).bind fun x10=>if (!(decide (x8=x10)))=true then some false
 else j2k F a2 k4 tl1 (n6+1)
def M12(F:Nat)(a1:(List q1b))(a2:(List q1b)):Option Bool:=
 if (((a1.length:Nat):Int) != ((a2.length:Nat):Int))=true then some false
 else jn (some true) (fun k4=>j2k F a2 k4 a1 0)
def M14(F:Nat)(a1:(List q1b)):Option (List q1b):=
 y5a a1.length (fun b7=>if b7=true then some ([]:List q1b)
 else if (([]:List q1b)++a1).length*24<=140737488355328 then some (([]:List q1b)++a1) else none)
def M13(F:Nat)(a1:Int)(a2:Int)(a3:List q1b):Option (List q1b):=if 0<=a1/\a1<=a2/\a2.toNat<=a3.length then some (a3.take a1.toNat++a3.drop a2.toNat) else none
def v7m(F:Nat)(a1:q4c)(a2:(List B8))(a3:B8)(y4:((List q1b)×Bool×Int))(k25:Option Bool):Nat->Int->Option Bool
  |0,n27=>k25
  |tl1+1,n27=>(M14 F (y4.1)).bind fun y29=>(M13 F n27 (w64 (n27+1)) y29).bind fun y31=>(M6 F a1 y31).bind fun y33=>(M9 F (y33.1) 1 a2).bind fun y35=>if ((y35.2) != 0)=true then some false
 else (M10 F (y35.1) a3).bind fun y38=>if (!y38)=true then some false
 else v7m F a1 a2 a3 y4 k25 tl1 (n27+1)
def M4(F:Nat)(a1:q4c)(a2:(List B8))(a3:B8):Option Bool:=
 (M5 F a1 a2 a3).bind fun y4=>(M11 F a1 a2 a3).bind fun y6=>if ((y4.2.1) != (y6.2.1))=true then some false
 else if ((y4.2.2) != (y6.2.2))=true then some false
 else (M12 F (y4.1) (y6.1)).bind fun y10=>if (!y10)=true then some false
 else if (!(y4.2.1))=true then (M8 F).bind fun y14=>some y14
 else (M6 F a1 (y4.1)).bind fun y16=>if ((y16.2) != 0)=true then some false
 else (M9 F (y16.1) 1 a2).bind fun y19=>if ((y19.2) != 0)=true then some false
 else (M10 F (y19.1) a3).bind fun y22=>if y22=true then some false
 else jn ((M8 F).bind fun y42=>some y42) (fun k25=>v7m F a1 a2 a3 y4 k25 (((((y4.1).length:Nat):Int):Int).toNat) 0)
end
end Go.Proofs.YtcihpgamojpcnaaGreat
