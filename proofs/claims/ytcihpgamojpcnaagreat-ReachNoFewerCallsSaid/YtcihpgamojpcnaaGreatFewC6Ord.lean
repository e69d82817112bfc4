/- Part of the proof: C6M, Q, X, XR, ZT, C6Ord. -/
import Derived.Test.YtcihpgamojpcnaaGreatFewC6T
import Derived.Test.YtcihpgamojpcnaaGreatFewPvU
import Derived.Test.YtcihpgamojpcnaaGreatFewZA
import Derived.Test.YtcihpgamojpcnaaGreatFewDT
import Derived.KernelRfl
namespace Go.Proofs.YtcihpgamojpcnaaGreat
open Go Go.Pv
set_option linter.unusedVariables false
set_option maxRecDepth 100000
noncomputable section
def M52_L3(F:Nat)(k23:(List ((List UInt8)×Bool))->Option Treach_checker):List TFunc->(List ((List UInt8)×Bool))->Option Treach_checker
 |[],m28=>k23 m28
 |x30::tl3,m28=>M52_L3 F k23 tl3 (mput m28 x30.Name true)
def M52_L2(F:Nat)(k13:(List ((List UInt8)×Bool))->Option Treach_checker):List TType->(List ((List UInt8)×Bool))->Option Treach_checker
 |[],m18=>k13 m18
 |x20::tl2,m18=>M52_L2 F k13 tl2 (mput m18 x20.Name true)
def M52_L1(F:Nat)(k3:(List ((List UInt8)×TIface))->Option Treach_checker):List TIface->(List ((List UInt8)×TIface))->Option Treach_checker
 |[],m8=>k3 m8
 |x10::tl1,m8=>M52_L1 F k3 tl1 (mput m8 x10.Name x10)
def M52(F:Nat)(a1:TGraph)(a2:Bool):Option Treach_checker:=
 jn (fun(m4:List ((List UInt8)×TIface))=>jn (fun(m14:List ((List UInt8)×Bool))=>jn (fun(m24:List ((List UInt8)×Bool))=>some (Treach_checker.mk a2 m4 m14 m24)) (fun k23=>M52_L3 F k23 a1.Funcs ([]:List ((List UInt8)×Bool)))) (fun k13=>M52_L2 F k13 a1.Types ([]:List ((List UInt8)×Bool)))) (fun k3=>M52_L1 F k3 a1.Ifaces ([]:List ((List UInt8)×TIface)))
def M108_L1(F:Nat)(a1:(List UInt8))(k2:Option Bool):Nat->Int->Option Bool
  |0,n4=>k2
  |tl1+1,n4=>(idx a1 n4).bind fun c6=>if (decide ((c6.toNat:Int)<33))=true then some false
 else (idx a1 n4).bind fun c9=>if (decide ((c9.toNat:Int)>126))=true then some false
 else (idx a1 n4).bind fun c12=>if ((c12.toNat:Int)==35)=true then some false
 else M108_L1 F a1 k2 tl1 (n4+1)
def M108(F:Nat)(a1:(List UInt8)):Option Bool:=
 jn (if (!(a1==([]:List UInt8)))=true then some (decide ((a1.length:Int)<=100))
 else some false) (fun k2=>if (a1.length:Int)<=9223372036854775807 then M108_L1 F a1 k2 (((a1.length:Int):Int).toNat) 0 else none)
def M87(F:Nat)(a1:(List UInt8))(a2:(List UInt8))(a3:Bool):Option Int:=
 (M108 F a1).bind fun y4=>jn (some 0) (fun k6=>if (!y4)=true then some 8
 else if (!a3)=true then if (Op.bytesLess a1 a2||a1==a2)=true then some 10
 else k6
 else k6)
def M75_L2(F:Nat)(k18:Option Int):List (List UInt8)->Int->(List UInt8)->Option Int
  |[],n22,s21=>k18
  |x24::tl2,n22,s21=>(M87 F x24 s21 (n22==0)).bind fun y26=>if (y26 != 0)=true then some y26
 else M75_L2 F k18 tl2 (n22+1) x24
def M75_L1(F:Nat)(k3:Option Int):List TIface->Int->(List UInt8)->Option Int
  |[],n7,s6=>k3
  |x11::tl1,n7,s6=>jn (fun(s10:List UInt8)=>M75_L1 F k3 tl1 (n7+1) s10) (fun k9=>(M87 F x11.Name s6 (n7==0)).bind fun y13=>if (y13 != 0)=true then some y13
 else if (((x11.Methods.length:Nat):Int)==0)=true then some 13
 else if (decide (((x11.Methods.length:Nat):Int)>200))=true then some 3
 else jn (k9 x11.Name) (fun k18=>M75_L2 F k18 x11.Methods 0 ([]:List UInt8)))
def M75(F:Nat)(a1:Treach_checker)(a2:(List TIface)):Option Int:=
 jn (some 0) (fun k3=>M75_L1 F k3 a2 0 ([]:List UInt8))
def M76_L2(F:Nat)(a1:Treach_checker)(k17:Option Int):List TMethod->Int->(List UInt8)->Option Int
  |[],n21,s20=>k17
  |x25::tl2,n21,s20=>jn (fun(s24:List UInt8)=>M76_L2 F a1 k17 tl2 (n21+1) s24) (fun k23=>(M87 F x25.Name s20 (n21==0)).bind fun y27=>if (y27 != 0)=true then some y27
 else if (!a1.loose)=true then if (!((mget a1.funcs x25.Func).getD false))=true then some 4
 else k23 x25.Name
 else k23 x25.Name)
def M76_L1(F:Nat)(a1:Treach_checker)(k3:Option Int):List TType->Int->(List UInt8)->Option Int
  |[],n7,s6=>k3
  |x11::tl1,n7,s6=>jn (fun(s10:List UInt8)=>M76_L1 F a1 k3 tl1 (n7+1) s10) (fun k9=>(M87 F x11.Name s6 (n7==0)).bind fun y13=>if (y13 != 0)=true then some y13
 else if (decide (((x11.Methods.length:Nat):Int)>200))=true then some 3
 else jn (k9 x11.Name) (fun k17=>M76_L2 F a1 k17 x11.Methods 0 ([]:List UInt8)))
def M76(F:Nat)(a1:Treach_checker)(a2:(List TType)):Option Int:=
 jn (some 0) (fun k3=>M76_L1 F a1 k3 a2 0 ([]:List UInt8))
def M35_L1(F:Nat)(a2:(List UInt8))(k3:Option Int):List (List UInt8)->Int->Option Int
  |[],n5=>k3
  |x7::tl1,n5=>if (a2==x7)=true then some n5
 else M35_L1 F a2 k3 tl1 (n5+1)
def M35(F:Nat)(a1:(List (List UInt8)))(a2:(List UInt8)):Option Int:=
 jn (some (-1)) (fun k3=>M35_L1 F a2 k3 a1 0)
def M10(F:Nat)(a1:(List (List UInt8)))(a2:(List UInt8)):Option Bool:=
 (M35 F a1 a2).bind fun y3=>some (decide (y3>=0))
def M109(F:Nat)(a1:Treach_checker)(a2:TCall):Option Int:=
 jn (if (!(a2.Feature==([]:List UInt8)))=true then (M108 F a2.Feature).bind fun y16=>if (!y16)=true then some 8
 else some 0
 else some 0) (fun k3=>if (a2.Kind==1)=true then if (!a1.loose)=true then if (!((mget a1.funcs a2.Target).getD false))=true then some 4
 else if (!(a2.Method==([]:List UInt8)))=true then some 2
 else k3
 else if (!(a2.Method==([]:List UInt8)))=true then some 2
 else k3
 else if (a2.Kind==2)=true then if (!a1.loose)=true then if (!((mget a1.ifaces a2.Target).isSome))=true then some 4
 else (M10 F ((mget a1.ifaces a2.Target).getD (TIface.mk ([]:List UInt8) ([]:(List (List UInt8))))).Methods a2.Method).bind fun y12=>if (!y12)=true then some 4
 else k3
 else k3
 else some 7)
def M78_L1(F:Nat)(a1:Treach_checker)(a2:(List (List UInt8)))(a3:(List ((List UInt8)×Bool)))(k4:Option Int):List (List UInt8)->Int->Option Int
  |[],n6=>k4
  |x8::tl1,n6=>jn (M78_L1 F a1 a2 a3 k4 tl1 (n6+1)) (fun k10=>if (!a1.loose)=true then jn (k10) (fun k12=>if (!((mget a3 x8).getD false))=true then some 4
 else if (decide (n6>0))=true then (idx a2 (w64 (n6 - 1))).bind fun x15=>if (Op.bytesLess x8 x15||x8==x15)=true then some 10
 else k12
 else k12)
 else if (decide (n6>0))=true then (idx a2 (w64 (n6 - 1))).bind fun x19=>if (Op.bytesLess x8 x19||x8==x19)=true then some 10
 else k10
 else k10)
def M78(F:Nat)(a1:Treach_checker)(a2:(List (List UInt8)))(a3:(List ((List UInt8)×Bool))):Option Int:=
 jn (some 0) (fun k4=>M78_L1 F a1 a2 a3 k4 a2 0)
def M77_L2(F:Nat)(a1:Treach_checker)(k20:Option Int):List TCall->Option Int
  |[]=>k20
  |x24::tl2=>(M109 F a1 x24).bind fun y26=>if (y26 != 0)=true then some y26
 else M77_L2 F a1 k20 tl2
def M77_L1(F:Nat)(a1:Treach_checker)(k3:Option Int):List TFunc->Int->(List UInt8)->Option Int
  |[],n7,s6=>k3
  |x11::tl1,n7,s6=>jn (fun(s10:List UInt8)=>M77_L1 F a1 k3 tl1 (n7+1) s10) (fun k9=>(M87 F x11.Name s6 (n7==0)).bind fun y13=>if (y13 != 0)=true then some y13
 else (M108 F x11.Component).bind fun y16=>if (!y16)=true then some 8
 else if (decide (((x11.Calls.length:Nat):Int)>200))=true then some 3
 else jn ((M78 F a1 x11.Makes a1.types).bind fun y30=>if (y30 != 0)=true then some y30
 else k9 x11.Name) (fun k20=>M77_L2 F a1 k20 x11.Calls))
def M77(F:Nat)(a1:Treach_checker)(a2:(List TFunc)):Option Int:=
 jn (some 0) (fun k3=>M77_L1 F a1 k3 a2 0 ([]:List UInt8))
def M53(F:Nat)(a1:Treach_checker)(a2:TGraph):Option Int:=
 if (decide (((a2.Ifaces.length:Nat):Int)>200))=true then some 3
 else if (decide (((a2.Types.length:Nat):Int)>500))=true then some 3
 else if (decide (((a2.Funcs.length:Nat):Int)>3000))=true then some 3
 else (M75 F a1 a2.Ifaces).bind fun y6=>if (y6 != 0)=true then some y6
 else (M76 F a1 a2.Types).bind fun y9=>if (y9 != 0)=true then some y9
 else (M77 F a1 a2.Funcs).bind fun y12=>if (y12 != 0)=true then some y12
 else (M78 F a1 a2.Entries a1.funcs).bind fun y15=>some y15
def M20(F:Nat)(a1:TGraph):Option Int:=
 (M52 F a1 false).bind fun y2=>(M53 F y2 a1).bind fun y4=>some y4
def M66_L1(F:Nat)(k3:Option Int):List (List UInt8)->Int->(List UInt8)->Option Int
  |[],n7,s6=>k3
  |x9::tl1,n7,s6=>(M87 F x9 s6 (n7==0)).bind fun y11=>if (y11 != 0)=true then some y11
 else M66_L1 F k3 tl1 (n7+1) x9
def M66(F:Nat)(a1:(List (List UInt8))):Option Int:=
 if (decide (((a1.length:Nat):Int)>30))=true then some 3
 else jn (some 0) (fun k3=>M66_L1 F k3 a1 0 ([]:List UInt8))
def M79(F:Nat)(a1:(List UInt8)):Option Bool:=
 some (!(a1==a1))
def M56(F:Nat)(a1:(List UInt8))(a2:(List UInt8)):Option Int:=
 (M79 F a1).bind fun y3=>(M79 F a2).bind fun y5=>if y3=true then if y5=true then some 0
 else some (-1)
 else if y5=true then some 1
 else if (Op.bytesLess a1 a2)=true then some (-1)
 else if (!(Op.bytesLess a1 a2||a1==a2))=true then some 1
 else some 0
def M96(F:Nat)(a1:TMethod)(a2:(List UInt8)):Option Int:=
 (M56 F a1.Name a2).bind fun y3=>some y3
def M95_L1(F:Nat)(a1:(List TMethod))(a2:(List UInt8))(k3:Int->Option (Int×Bool)):Nat->Int->Int->Option (Int×Bool)
 |0,_,_=>none
 |n+1,n7,n8=>if (decide (n7<n8))=true then (idx a1 (w64 (Int.fdiv (IntKind.wrap .u64 (w64 (n7+n8))) (2 ^ (min (Int.toNat 1) (IntKind.bits .u64)))))).bind fun x10=>(M96 F x10 a2).bind fun y12=>jn (fun(n15:Int) (n16:Int)=>M95_L1 F a1 a2 k3 n n15 n16) (fun k14=>if (decide (y12<0))=true then k14 (w64 ((w64 (Int.fdiv (IntKind.wrap .u64 (w64 (n7+n8))) (2 ^ (min (Int.toNat 1) (IntKind.bits .u64)))))+1)) n8
 else k14 n7 (w64 (Int.fdiv (IntKind.wrap .u64 (w64 (n7+n8))) (2 ^ (min (Int.toNat 1) (IntKind.bits .u64))))))
 else k3 n7
def M95(F:Nat)(a1:(List TMethod))(a2:(List UInt8)):Option (Int×Bool):=
 jn (fun(n4:Int)=>if (decide (n4<((a1.length:Nat):Int)))=true then (idx a1 n4).bind fun x19=>(M96 F x19 a2).bind fun y21=>some (n4,(y21==0))
 else some (n4,false)) (fun k3=>M95_L1 F a1 a2 k3 F 0 ((a1.length:Nat):Int))
def M72(F:Nat)(a1:TType)(a2:(List UInt8)):Option ((List UInt8)×Bool):=
 (M95 F a1.Methods a2).bind fun y3=>if (!(y3.2))=true then some (([]:List UInt8),false)
 else (idx a1.Methods (y3.1)).bind fun x6=>some (x6.Func,true)
def M54_L1(F:Nat)(a1:TType)(k3:Option Bool):List (List UInt8)->Option Bool
  |[]=>k3
  |x7::tl1=>(M72 F a1 x7).bind fun y9=>if (!(y9.2))=true then some false
 else M54_L1 F a1 k3 tl1
def M54(F:Nat)(a1:TType)(a2:TIface):Option Bool:=
 jn (some true) (fun k3=>M54_L1 F a1 k3 a2.Methods)
def M21_L5(F:Nat)(k52:(List ((List UInt8)×Bool))->Option (Option Treach_world)):List (List UInt8)->(List ((List UInt8)×Bool))->Option (Option Treach_world)
 |[],m57=>k52 m57
 |x59::tl5,m57=>M21_L5 F k52 tl5 (mput m57 x59 true)
def M21_L4(F:Nat)(x33:TIface)(k35:(List ((List UInt8)×(List Int)))->Option (Option Treach_world)):List TType->Int->(List ((List UInt8)×(List Int)))->Option (Option Treach_world)
  |[],n39,m40=>k35 m40
  |x42::tl4,n39,m40=>(M54 F x42 x33).bind fun y44=>jn (fun(m47:List ((List UInt8)×(List Int)))=>M21_L4 F x33 k35 tl4 (n39+1) m47) (fun k46=>if y44=true then if (((mget m40 x33.Name).getD [])++([n39]:List Int)).length*8<=140737488355328 then k46 (mput m40 x33.Name (((mget m40 x33.Name).getD [])++([n39]:List Int))) else none
 else k46 m40)
def M21_L3(F:Nat)(a1:TGraph)(k24:(List ((List UInt8)×(List Int)))->Option (Option Treach_world)):List TIface->(List ((List UInt8)×(List Int)))->Option (Option Treach_world)
 |[],m29=>k24 m29
 |x33::tl3,m29=>jn (fun(m32:List ((List UInt8)×(List Int)))=>M21_L3 F a1 k24 tl3 m32) (fun k31=>jn (fun(m36:List ((List UInt8)×(List Int)))=>k31 m36) (fun k35=>M21_L4 F x33 k35 a1.Types 0 m29))
def M21_L2(F:Nat)(k14:(List ((List UInt8)×Int))->Option (Option Treach_world)):List TType->Int->(List ((List UInt8)×Int))->Option (Option Treach_world)
 |[],n18,m19=>k14 m19
 |x21::tl2,n18,m19=>M21_L2 F k14 tl2 (n18+1) (mput m19 x21.Name n18)
def M21_L1(F:Nat)(k4:(List ((List UInt8)×Int))->Option (Option Treach_world)):List TFunc->Int->(List ((List UInt8)×Int))->Option (Option Treach_world)
 |[],n8,m9=>k4 m9
 |x11::tl1,n8,m9=>M21_L1 F k4 tl1 (n8+1) (mput m9 x11.Name n8)
def M21(F:Nat)(a1:TGraph)(a2:Int)(a3:(List (List UInt8))):Option (Option Treach_world):=
 jn (fun(m5:List ((List UInt8)×Int))=>jn (fun(m15:List ((List UInt8)×Int))=>jn (fun(m25:List ((List UInt8)×(List Int)))=>jn (fun(m53:List ((List UInt8)×Bool))=>some (some (Treach_world.mk a1 m5 m15 m25 m53 (a2==2)))) (fun k52=>M21_L5 F k52 a3 (mput ([]:List ((List UInt8)×Bool)) ([]:List UInt8) true))) (fun k24=>M21_L3 F a1 k24 a1.Ifaces ([]:List ((List UInt8)×(List Int))))) (fun k14=>M21_L2 F k14 a1.Types 0 ([]:List ((List UInt8)×Int)))) (fun k4=>M21_L1 F k4 a1.Funcs 0 ([]:List ((List UInt8)×Int)))
def M34(F:Nat)(a1:TGraph)(a2:Int)(a3:(List (List UInt8))):Option ((Option Treach_world)×Int):=
 (M20 F a1).bind fun y4=>if (y4 != 0)=true then some ((none:Option Treach_world),y4)
 else (M66 F a3).bind fun y7=>if (y7 != 0)=true then some ((none:Option Treach_world),y7)
 else if (a2 != 1)=true then if (a2 != 2)=true then some ((none:Option Treach_world),7)
 else (M21 F a1 a2 a3).bind fun y12=>(y12).bind fun x14=>some ((some x14),0)
 else (M21 F a1 a2 a3).bind fun y16=>(y16).bind fun x18=>some ((some x18),0)
def M15(F:Nat)(a1:TGraph)(a2:Int)(a3:(List (List UInt8)))(a4:(List UInt8)):Option ((Option Treach_world)×Int×Int):=
 (M34 F a1 a2 a3).bind fun y5=>if ((y5.2) != 0)=true then some ((none:Option Treach_world),0,(y5.2))
 else ((y5.1)).bind fun x8=>if (!((mget x8.funcs a4).isSome))=true then some ((none:Option Treach_world),0,4)
 else some ((some x8),((mget x8.funcs a4).getD 0),0)
def M44(F:Nat)(a1:Int)(a2:Treach_world)(a3:List Bool)(a4:List Bool)(a5:List (Treach_slot×Bool))(a6:List Treach_slot)(a7:List Int)(a8:List Int):Option ((List Bool)×(List Int)):=
 (idx a3 a1).bind fun x17=>if (!x17)=true then (idx a3 a1).bind fun x20=>if (a8++([a1]:List Int)).length*8<=140737488355328 then some ((a3.set a1.toNat true),(a8++([a1]:List Int))) else none
 else some (a3,a8)
def M94_L1(F:Nat)(a2:Int)(k3:Option Int):List Int->Int->Option Int
  |[],n5=>k3
  |x7::tl1,n5=>if (a2==x7)=true then some n5
 else M94_L1 F a2 k3 tl1 (n5+1)
def M94(F:Nat)(a1:(List Int))(a2:Int):Option Int:=
 jn (some (-1)) (fun k3=>M94_L1 F a2 k3 a1 0)
def M71(F:Nat)(a1:(List Int))(a2:Int):Option Bool:=
 (M94 F a1 a2).bind fun y3=>some (decide (y3>=0))
def M47(F:Nat)(a1:Treach_world)(a2:TCall)(a3:Int):Option Int:=
 (idx a1.g.Types a3).bind fun x4=>(M72 F x4 a2.Method).bind fun y6=>some ((mget a1.funcs (y6.1)).getD 0)
def M45_L1(F:Nat)(a1:Int)(a2:Treach_world)(a4:List Bool)(a5:List (Treach_slot×Bool))(a6:List Treach_slot)(a7:List Int):List Treach_slot->(List Bool)->(List Int)->Option ((List Bool)×(List Bool)×(List Int))
  |[],l48,l49=>some (l48,(a4.set a1.toNat true),l49)
  |x51::tl1,l48,l49=>(M71 F ((mget a2.fitting x51.iface).getD ([]:(List Int))) a1).bind fun y53=>jn (fun(l56:List Bool) (l57:List Int)=>M45_L1 F a1 a2 a4 a5 a6 a7 tl1 l56 l57) (fun k55=>if y53=true then (M47 F a2 (TCall.mk 0 x51.iface x51.method ([]:List UInt8)) a1).bind fun y59=>(M44 F y59 a2 l48 (a4.set a1.toNat true) a5 a6 a7 l49).bind fun y61=>k55 (y61.1) (y61.2)
 else k55 l48 l49)
def M45(F:Nat)(a1:Int)(a2:Treach_world)(a3:List Bool)(a4:List Bool)(a5:List (Treach_slot×Bool))(a6:List Treach_slot)(a7:List Int)(a8:List Int):Option ((List Bool)×(List Bool)×(List Int)):=
 (idx a4 a1).bind fun x38=>if x38=true then some (a3,a4,a8)
 else (idx a4 a1).bind fun x41=>if (!a2.made)=true then some (a3,(a4.set a1.toNat true),a8)
 else M45_L1 F a1 a2 a4 a5 a6 a7 a6 a3 a8
def M46_L1(F:Nat)(a1:TCall)(a2:Treach_world)(a4:List Bool)(a5:List (Treach_slot×Bool))(a6:List Treach_slot)(a7:List Int):List Int->(List Bool)->(List Int)->Option ((List Bool)×(List (Treach_slot×Bool))×(List Treach_slot)×(List Int))
  |[],l55,l56=>some (l55,(mput a5 (Treach_slot.mk a1.Target a1.Method) true),(a6++([(Treach_slot.mk a1.Target a1.Method)]:List Treach_slot)),l56)
  |x61::tl1,l55,l56=>jn (fun(l59:List Bool) (l60:List Int)=>M46_L1 F a1 a2 a4 a5 a6 a7 tl1 l59 l60) (fun k58=>if (!a2.made)=true then (M47 F a2 a1 x61).bind fun y64=>(M44 F y64 a2 l55 a4 (mput a5 (Treach_slot.mk a1.Target a1.Method) true) (a6++([(Treach_slot.mk a1.Target a1.Method)]:List Treach_slot)) a7 l56).bind fun y66=>k58 (y66.1) (y66.2)
 else (idx a4 x61).bind fun x68=>jn (fun(l71:List Bool) (l72:List Int)=>k58 l71 l72) (fun k70=>if x68=true then (M47 F a2 a1 x61).bind fun y74=>(M44 F y74 a2 l55 a4 (mput a5 (Treach_slot.mk a1.Target a1.Method) true) (a6++([(Treach_slot.mk a1.Target a1.Method)]:List Treach_slot)) a7 l56).bind fun y76=>k70 (y76.1) (y76.2)
 else k70 l55 l56))
def M46(F:Nat)(a1:TCall)(a2:Treach_world)(a3:List Bool)(a4:List Bool)(a5:List (Treach_slot×Bool))(a6:List Treach_slot)(a7:List Int)(a8:List Int):Option ((List Bool)×(List (Treach_slot×Bool))×(List Treach_slot)×(List Int)):=
 if (a1.Kind==1)=true then (M44 F ((mget a2.funcs a1.Target).getD 0) a2 a3 a4 a5 a6 a7 a8).bind fun y47=>some ((y47.1),a5,a6,(y47.2))
 else if ((mget a5 (Treach_slot.mk a1.Target a1.Method)).getD false)=true then some (a3,a5,a6,a8)
 else if (a6++([(Treach_slot.mk a1.Target a1.Method)]:List Treach_slot)).length*32<=140737488355328 then M46_L1 F a1 a2 a4 a5 a6 a7 ((mget a2.fitting a1.Target).getD ([]:(List Int))) a3 a8 else none
def M16_L4(F:Nat)(a1:Treach_world)(a2:Int)(l51:List Bool)(k20:(List Bool)->(List Bool)->(List (Treach_slot×Bool))->(List Treach_slot)->(List Int)->Option (Option Treach_spread))(k69:(List Bool)->(List (Treach_slot×Bool))->(List Treach_slot)->(List Int)->Option (Option Treach_spread)):List TCall->(List Bool)->(List (Treach_slot×Bool))->(List Treach_slot)->(List Int)->Option (Option Treach_spread)
  |[],l80,m81,l82,l83=>k69 l80 m81 l82 l83
  |x90::tl4,l80,m81,l82,l83=>jn (fun(l86:List Bool) (m87:List (Treach_slot×Bool)) (l88:List Treach_slot) (l89:List Int)=>M16_L4 F a1 a2 l51 k20 k69 tl4 l86 m87 l88 l89) (fun k85=>if (!((mget a1.on x90.Feature).getD false))=true then k85 l80 m81 l82 l83
 else (M46 F x90 a1 l80 l51 m81 l82 ([]:List Int) l83).bind fun y93=>if (decide (a2>=0))=true then (idx (y93.1) a2).bind fun x96=>if x96=true then k20 (y93.1) l51 (y93.2.1) (y93.2.2.1) (y93.2.2.2)
 else k85 (y93.1) (y93.2.1) (y93.2.2.1) (y93.2.2.2)
 else k85 (y93.1) (y93.2.1) (y93.2.2.1) (y93.2.2.2))
def M16_L3(F:Nat)(a1:Treach_world)(m33:List (Treach_slot×Bool))(l34:List Treach_slot)(k49:(List Bool)->(List Bool)->(List Int)->Option (Option Treach_spread)):List (List UInt8)->(List Bool)->(List Bool)->(List Int)->Option (Option Treach_spread)
 |[],l58,l59,l60=>k49 l58 l59 l60
 |x62::tl3,l58,l59,l60=>(M45 F ((mget a1.types x62).getD 0) a1 l58 l59 m33 l34 ([]:List Int) l60).bind fun y64=>M16_L3 F a1 m33 l34 k49 tl3 (y64.1) (y64.2.1) (y64.2.2)
def M16_L2(F:Nat)(a1:Treach_world)(a2:Int)(k20:(List Bool)->(List Bool)->(List (Treach_slot×Bool))->(List Treach_slot)->(List Int)->Option (Option Treach_spread)):Nat->(List Bool)->(List Bool)->(List (Treach_slot×Bool))->(List Treach_slot)->(List Int)->Option (Option Treach_spread)
 |0,_,_,_,_,_=>none
 |n+1,l31,l32,m33,l34,l35=>if (decide (((l35.length:Nat):Int)>0))=true then jn (fun(l38:List Bool) (l39:List Bool) (m40:List (Treach_slot×Bool)) (l41:List Treach_slot) (l42:List Int)=>M16_L2 F a1 a2 k20 n l38 l39 m40 l41 l42) (fun k37=>(idx l35 0).bind fun x43=>if 1<=l35.length then if (x43==a2)=true then k20 l31 l32 m33 l34 (l35.drop 1)
 else (idx a1.g.Funcs x43).bind fun x47=>jn (fun(l50:List Bool) (l51:List Bool) (l52:List Int)=>(idx a1.g.Funcs x43).bind fun x67=>jn (fun(l70:List Bool) (m71:List (Treach_slot×Bool)) (l72:List Treach_slot) (l73:List Int)=>k37 l70 l51 m71 l72 l73) (fun k69=>M16_L4 F a1 a2 l51 k20 k69 x67.Calls l50 m33 l34 l52)) (fun k49=>M16_L3 F a1 m33 l34 k49 x47.Makes l31 l32 (l35.drop 1)) else none)
 else k20 l31 l32 m33 l34 l35
def M16_L1(F:Nat)(a1:Treach_world)(k5:(List Bool)->(List Int)->Option (Option Treach_spread)):List (List UInt8)->(List Bool)->(List Int)->Option (Option Treach_spread)
 |[],l12,l13=>k5 l12 l13
 |x15::tl1,l12,l13=>(M44 F ((mget a1.funcs x15).getD 0) a1 l12 (List.replicate (((a1.g.Types.length:Nat):Int)).toNat (false:Bool)) ([]:List (Treach_slot×Bool)) ([]:List Treach_slot) ([]:List Int) l13).bind fun y17=>M16_L1 F a1 k5 tl1 (y17.1) (y17.2)
def M16(F:Nat)(a1:Treach_world)(a2:Int):Option (Option Treach_spread):=
 if 0<=((a1.g.Funcs.length:Nat):Int)/\((1:Nat):Int)*((a1.g.Funcs.length:Nat):Int)<=140737488355328/\((a1.g.Funcs.length:Nat):Int)<=140737488355328 then if 0<=((a1.g.Types.length:Nat):Int)/\((1:Nat):Int)*((a1.g.Types.length:Nat):Int)<=140737488355328/\((a1.g.Types.length:Nat):Int)<=140737488355328 then jn (fun(l6:List Bool) (l7:List Int)=>jn (fun(l21:List Bool) (l22:List Bool) (m23:List (Treach_slot×Bool)) (l24:List Treach_slot) (l25:List Int)=>some (some (Treach_spread.mk (some a1) l21 l22 m23 l24 ([]:List Int) l25))) (fun k20=>M16_L2 F a1 a2 k20 F l6 (List.replicate (((a1.g.Types.length:Nat):Int)).toNat (false:Bool)) ([]:List (Treach_slot×Bool)) ([]:List Treach_slot) l7)) (fun k5=>M16_L1 F a1 k5 a1.g.Entries (List.replicate (((a1.g.Funcs.length:Nat):Int)).toNat (false:Bool)) ([]:List Int)) else none else none
def M17(F:Nat)(a1:Int)(a2:Int)(a3:Int)(a4:List (List Treach_arc))(a5:List Int)(a6:List Int):Option (List (List Treach_arc)):=
 (idx a4 a1).bind fun x21=>(idx a4 a2).bind fun x23=>if (x21++[(Treach_arc.mk a2 a3 ((x23.length:Nat):Int))]).length*24<=140737488355328 then (idx (a4.set a1.toNat (x21++[(Treach_arc.mk a2 a3 ((x23.length:Nat):Int))])) a2).bind fun x27=>(idx (a4.set a1.toNat (x21++[(Treach_arc.mk a2 a3 ((x23.length:Nat):Int))])) a1).bind fun x29=>if (x27++[(Treach_arc.mk a1 0 (w64 (((x29.length:Nat):Int) - 1)))]).length*24<=140737488355328 then some ((a4.set a1.toNat (x21++[(Treach_arc.mk a2 a3 ((x23.length:Nat):Int))])).set a2.toNat (x27++[(Treach_arc.mk a1 0 (w64 (((x29.length:Nat):Int) - 1)))])) else none else none
def M48(F:Nat)(a1:List Int):Option (List Int):=if a1.length<4611686018427387904 then some (isort a1) else none
def M49(F:Nat)(a1:List Int):Option (List Int):=if a1.length<=140737488355328 then some (cpt a1) else none
def M18_L1(F:Nat)(a1:Treach_world)(a2:TCall)(k4:(List Int)->Option (List Int)):List Int->(List Int)->Option (List Int)
 |[],l9=>k4 l9
 |x11::tl1,l9=>(M47 F a1 a2 x11).bind fun y13=>if (l9++([y13]:List Int)).length*8<=140737488355328 then M18_L1 F a1 a2 k4 tl1 (l9++([y13]:List Int)) else none
def M18(F:Nat)(a1:Treach_world)(a2:TCall):Option (List Int):=
 if (a2.Kind==1)=true then some ([((mget a1.funcs a2.Target).getD 0)]:List Int)
 else jn (fun(l5:List Int)=>(M48 F l5).bind fun y17=>if y17.length=l5.length then (M49 F y17).bind fun y20=>some y20 else none) (fun k4=>M18_L1 F a1 a2 k4 ((mget a1.fitting a2.Target).getD ([]:(List Int))) ([]:List Int))
def M50_L3(F:Nat)(a2:List (List Treach_arc))(x85:Int)(k90:(List Int)->(List Int)->Option (List Int)):Nat->Int->(List Int)->(List Int)->Option (List Int)
  |0,n96,l97,l98=>k90 l97 l98
  |tl3+1,n96,l97,l98=>jn (fun(l101:List Int) (l102:List Int)=>M50_L3 F a2 x85 k90 tl3 (n96+1) l101 l102) (fun k100=>(idx a2 x85).bind fun x103=>(idx x103 n96).bind fun y105=>if (decide (y105.left>0))=true then (idx l98 y105.to).bind fun x108=>jn (fun(l111:List Int) (l112:List Int)=>k100 l111 l112) (fun k110=>if (decide (x108<0))=true then (idx l98 x85).bind fun x114=>(idx l98 y105.to).bind fun x116=>if (l97++([y105.to]:List Int)).length*8<=140737488355328 then k110 (l97++([y105.to]:List Int)) (l98.set y105.to.toNat (w64 (x114+1))) else none
 else k110 l97 l98)
 else k100 l97 l98)
def M50_L2(F:Nat)(a2:List (List Treach_arc)):Nat->(List Int)->(List Int)->Option (List Int)
 |0,_,_=>none
 |n+1,l79,l80=>if (decide (((l79.length:Nat):Int)>0))=true then jn (fun(l83:List Int) (l84:List Int)=>M50_L2 F a2 n l83 l84) (fun k82=>(idx l79 0).bind fun x85=>if 1<=l79.length then (idx a2 x85).bind fun x88=>jn (fun(l91:List Int) (l92:List Int)=>k82 l91 l92) (fun k90=>if ((x88.length:Nat):Int)<=9223372036854775807 then M50_L3 F a2 x85 k90 ((((x88.length:Nat):Int):Int).toNat) 0 (l79.drop 1) l80 else none) else none)
 else some l80
def M50_L1(F:Nat)(k64:(List Int)->Option (List Int)):Nat->Int->(List Int)->Option (List Int)
 |0,n68,l69=>k64 l69
 |tl1+1,n68,l69=>(idx l69 n68).bind fun x71=>M50_L1 F k64 tl1 (n68+1) (l69.set n68.toNat (-1))
def M50(F:Nat)(a1:Int)(a2:List (List Treach_arc))(a3:List Int)(a4:List Int):Option (List Int):=
 if 0<=((a2.length:Nat):Int)/\((8:Nat):Int)*((a2.length:Nat):Int)<=140737488355328/\((a2.length:Nat):Int)<=140737488355328 then jn (fun(l65:List Int)=>(idx l65 a1).bind fun x75=>M50_L2 F a2 F ([a1]:List Int) (l65.set a1.toNat 0)) (fun k64=>M50_L1 F k64 (((((List.replicate (((a2.length:Nat):Int)).toNat (0:Int)).length:Nat):Int):Int).toNat) 0 (List.replicate (((a2.length:Nat):Int)).toNat (0:Int))) else none
def M51_L1(R51:Int->Int->(List (List Treach_arc))->(List Int)->(List Int)->Option (Bool×(List (List Treach_arc))×(List Int)))(F:Nat)(a1:Int)(a2:Int)(a4:List Int)(k57:(List (List Treach_arc))->(List Int)->Option (Bool×(List (List Treach_arc))×(List Int))):Nat->(List (List Treach_arc))->(List Int)->Option (Bool×(List (List Treach_arc))×(List Int))
 |0,_,_=>none
 |n+1,l62,l63=>(idx l63 a1).bind fun x64=>(idx l62 a1).bind fun x66=>if (decide (x64<((x66.length:Nat):Int)))=true then jn (fun(l70:List (List Treach_arc)) (l71:List Int)=>(idx l71 a1).bind fun x99=>(idx l71 a1).bind fun x101=>M51_L1 R51 F a1 a2 a4 k57 n l70 (l71.set a1.toNat (w64 (x99+1)))) (fun k69=>(idx l62 a1).bind fun x72=>(idx l63 a1).bind fun x74=>(idx x72 x74).bind fun y76=>if (decide (y76.left>0))=true then (idx a4 y76.to).bind fun x79=>(idx a4 a1).bind fun x81=>if (x79==(w64 (x81+1)))=true then (R51 y76.to a2 l62 a4 l63).bind fun y84=>if (y84.1)=true then (idx (y84.2.1) a1).bind fun x87=>(idx x87 x74).bind fun y89=>(idx ((y84.2.1).set a1.toNat (x87.set x74.toNat (Treach_arc.mk y89.to (w64 (y89.left - 1)) y89.back))) a1).bind fun x91=>(idx x91 x74).bind fun y93=>(idx ((y84.2.1).set a1.toNat (x87.set x74.toNat (Treach_arc.mk y89.to (w64 (y89.left - 1)) y89.back))) y93.to).bind fun x95=>(idx x95 y93.back).bind fun y97=>some (true,(((y84.2.1).set a1.toNat (x87.set x74.toNat (Treach_arc.mk y89.to (w64 (y89.left - 1)) y89.back))).set y93.to.toNat (x95.set y93.back.toNat (Treach_arc.mk y97.to (w64 (y97.left+1)) y97.back))),(y84.2.2))
 else k69 (y84.2.1) (y84.2.2)
 else k69 l62 l63
 else k69 l62 l63)
 else k57 l62 l63
def M51_B(R51:Int->Int->(List (List Treach_arc))->(List Int)->(List Int)->Option (Bool×(List (List Treach_arc))×(List Int)))(F:Nat)(a1:Int)(a2:Int)(a3:List (List Treach_arc))(a4:List Int)(a5:List Int):Option (Bool×(List (List Treach_arc))×(List Int)):=
 if (a1==a2)=true then some (true,a3,a5)
 else jn (fun(l58:List (List Treach_arc)) (l59:List Int)=>some (false,l58,l59)) (fun k57=>M51_L1 R51 F a1 a2 a4 k57 F a3 a5)
def M51:Nat->Int->Int->(List (List Treach_arc))->(List Int)->(List Int)->Option (Bool×(List (List Treach_arc))×(List Int))
 |0,_,_,_,_,_=>none
 |F+1,a1,a2,a3,a4,a5=>M51_B (M51 F) F a1 a2 a3 a4 a5
def M19_L2(F:Nat)(a1:Int)(a2:Int)(y46:(List Int))(k53:(List (List Treach_arc))->(List Int)->Option ((List (List Treach_arc))×(List Int)×(List Int))):Nat->(List (List Treach_arc))->(List Int)->Option ((List (List Treach_arc))×(List Int)×(List Int))
 |0,_,_=>none
 |n+1,l58,l59=>(M51 F a1 a2 l58 y46 l59).bind fun y60=>if (y60.1)=true then M19_L2 F a1 a2 y46 k53 n (y60.2.1) (y60.2.2)
 else k53 (y60.2.1) (y60.2.2)
def M19_L1(F:Nat)(a1:Int)(a2:Int):Nat->(List (List Treach_arc))->(List Int)->(List Int)->Option ((List (List Treach_arc))×(List Int)×(List Int))
 |0,_,_,_=>none
 |n+1,l39,l40,l41=>jn (fun(l43:List (List Treach_arc)) (l44:List Int) (l45:List Int)=>M19_L1 F a1 a2 n l43 l44 l45) (fun k42=>(M50 F a1 l39 l40 l41).bind fun y46=>(idx y46 a2).bind fun x48=>if (decide (x48<0))=true then some (l39,y46,l41)
 else if 0<=((l39.length:Nat):Int)/\((8:Nat):Int)*((l39.length:Nat):Int)<=140737488355328/\((l39.length:Nat):Int)<=140737488355328 then jn (fun(l54:List (List Treach_arc)) (l55:List Int)=>k42 l54 y46 l55) (fun k53=>M19_L2 F a1 a2 y46 k53 F l39 (List.replicate (((l39.length:Nat):Int)).toNat (0:Int))) else none)
def M19(F:Nat)(a1:Int)(a2:Int)(a3:List (List Treach_arc))(a4:List Int)(a5:List Int):Option ((List (List Treach_arc))×(List Int)×(List Int)):=
 M19_L1 F a1 a2 F a3 a4 a5
def M5_L6(F:Nat)(a1:TGraph)(x10:Treach_world)(y92:((List (List Treach_arc))×(List Int)×(List Int)))(k94:(List TSite)->Option ((List TSite)×Bool×Int)):List TSite->Int->(List TSite)->Option ((List TSite)×Bool×Int)
  |[],n98,l99=>k94 l99
  |x103::tl6,n98,l99=>jn (fun(l102:List TSite)=>M5_L6 F a1 x10 y92 k94 tl6 (n98+1) l102) (fun k101=>(idx (y92.2.1) ((mget x10.funcs x103.Func).getD 0)).bind fun x105=>if (decide (x105>=0))=true then (idx (y92.2.1) (w64 (((a1.Funcs.length:Nat):Int)+n98))).bind fun x108=>jn (fun(l111:List TSite)=>k101 l111) (fun k110=>if (decide (x108<0))=true then if (l99++([x103]:List TSite)).length*24<=140737488355328 then k110 (l99++([x103]:List TSite)) else none
 else k110 l99)
 else k101 l99)
def M5_L5(F:Nat)(a1:TGraph)(x10:Treach_world)(l15:List TSite)(k80:(List (List Treach_arc))->Option ((List TSite)×Bool×Int)):List (List UInt8)->(List (List Treach_arc))->Option ((List TSite)×Bool×Int)
 |[],l85=>k80 l85
 |x87::tl5,l85=>(M17 F (w64 (((a1.Funcs.length:Nat):Int)+((l15.length:Nat):Int))) ((mget x10.funcs x87).getD 0) 1099511627776 l85 ([]:List Int) ([]:List Int)).bind fun y89=>M5_L5 F a1 x10 l15 k80 tl5 y89
def M5_L4(F:Nat)(a1:TGraph)(n52:Int)(k67:(List (List Treach_arc))->Option ((List TSite)×Bool×Int)):List Int->(List (List Treach_arc))->Option ((List TSite)×Bool×Int)
 |[],l72=>k67 l72
 |x74::tl4,l72=>(M17 F (w64 (((a1.Funcs.length:Nat):Int)+n52)) x74 1099511627776 l72 ([]:List Int) ([]:List Int)).bind fun y76=>M5_L4 F a1 n52 k67 tl4 y76
def M5_L3(F:Nat)(a1:TGraph)(x10:Treach_world)(k48:(List (List Treach_arc))->Option ((List TSite)×Bool×Int)):List TSite->Int->(List (List Treach_arc))->Option ((List TSite)×Bool×Int)
 |[],n52,l53=>k48 l53
 |x57::tl3,n52,l53=>jn (fun(l56:List (List Treach_arc))=>M5_L3 F a1 x10 k48 tl3 (n52+1) l56) (fun k55=>(M17 F ((mget x10.funcs x57.Func).getD 0) (w64 (((a1.Funcs.length:Nat):Int)+n52)) 1 l53 ([]:List Int) ([]:List Int)).bind fun y59=>(idx a1.Funcs ((mget x10.funcs x57.Func).getD 0)).bind fun x61=>(idx x61.Calls x57.Call).bind fun x63=>(M18 F x10 x63).bind fun y65=>jn (fun(l68:List (List Treach_arc))=>k55 l68) (fun k67=>M5_L4 F a1 n52 k67 y65 y59))
def M5_L2(F:Nat)(x10:Treach_world)(x16:Treach_spread)(n20:Int)(x25:TFunc)(k27:(List TSite)->Option ((List TSite)×Bool×Int)):List TCall->Int->(List TSite)->Option ((List TSite)×Bool×Int)
  |[],n31,l32=>k27 l32
  |x36::tl2,n31,l32=>jn (fun(l35:List TSite)=>M5_L2 F x10 x16 n20 x25 k27 tl2 (n31+1) l35) (fun k34=>(idx x16.funcs n20).bind fun x38=>if x38=true then jn (fun(l42:List TSite)=>k34 l42) (fun k41=>if ((mget x10.on x36.Feature).getD false)=true then if (l32++([(TSite.mk x25.Name n31)]:List TSite)).length*24<=140737488355328 then k41 (l32++([(TSite.mk x25.Name n31)]:List TSite)) else none
 else k41 l32)
 else k34 l32)
def M5_L1(F:Nat)(x10:Treach_world)(x16:Treach_spread)(k14:(List TSite)->Option ((List TSite)×Bool×Int)):List TFunc->Int->(List TSite)->Option ((List TSite)×Bool×Int)
 |[],n20,l21=>k14 l21
 |x25::tl1,n20,l21=>jn (fun(l24:List TSite)=>M5_L1 F x10 x16 k14 tl1 (n20+1) l24) (fun k23=>jn (fun(l28:List TSite)=>k23 l28) (fun k27=>M5_L2 F x10 x16 n20 x25 k27 x25.Calls 0 l21))
def M5(F:Nat)(a1:TGraph)(a2:(List (List UInt8)))(a3:(List UInt8)):Option ((List TSite)×Bool×Int):=
 (M15 F a1 1 a2 a3).bind fun y4=>if ((y4.2.2) != 0)=true then some (([]:List TSite),false,(y4.2.2))
 else (M10 F a1.Entries a3).bind fun y7=>if y7=true then some (([]:List TSite),false,0)
 else ((y4.1)).bind fun x10=>(M16 F x10 (-1)).bind fun y12=>jn (fun(l15:List TSite)=>if 0<=(w64 ((w64 (((a1.Funcs.length:Nat):Int)+((l15.length:Nat):Int)))+1))/\((24:Nat):Int)*(w64 ((w64 (((a1.Funcs.length:Nat):Int)+((l15.length:Nat):Int)))+1))<=140737488355328/\(w64 ((w64 (((a1.Funcs.length:Nat):Int)+((l15.length:Nat):Int)))+1))<=140737488355328 then jn (fun(l49:List (List Treach_arc))=>jn (fun(l81:List (List Treach_arc))=>(M19 F (w64 (((a1.Funcs.length:Nat):Int)+((l15.length:Nat):Int))) (y4.2.1) l81 ([]:List Int) ([]:List Int)).bind fun y92=>jn (fun(l95:List TSite)=>some (l95,true,0)) (fun k94=>M5_L6 F a1 x10 y92 k94 l15 0 ([]:List TSite))) (fun k80=>M5_L5 F a1 x10 l15 k80 a1.Entries l49)) (fun k48=>M5_L3 F a1 x10 k48 l15 0 (List.replicate ((w64 ((w64 (((a1.Funcs.length:Nat):Int)+((l15.length:Nat):Int)))+1))).toNat (([]:(List Treach_arc)):(List Treach_arc)))) else none) (fun k14=>(y12).bind fun x16=>M5_L1 F x10 x16 k14 a1.Funcs 0 ([]:List TSite))
def M80(F:Nat)(a1:Int):Option Bool:=
 some (a1 != a1)
def M57(F:Nat)(a1:Int)(a2:Int):Option Int:=
 (M80 F a1).bind fun y3=>(M80 F a2).bind fun y5=>if y3=true then if y5=true then some 0
 else some (-1)
 else if y5=true then some 1
 else if (decide (a1<a2))=true then some (-1)
 else if (decide (a1>a2))=true then some 1
 else some 0
def M55_L1(F:Nat)(k2:Option Int):List Int->Option Int
  |[]=>k2
  |x6::tl1=>if (x6 != 0)=true then some x6
 else M55_L1 F k2 tl1
def M55(F:Nat)(a1:(List Int)):Option Int:=
 jn (some 0) (fun k2=>M55_L1 F k2 a1)
def M22(F:Nat)(a1:TSite)(a2:TSite):Option Int:=
 (M56 F a1.Func a2.Func).bind fun y3=>(M57 F a1.Call a2.Call).bind fun y5=>(M55 F ([y3,y5]:List Int)).bind fun y7=>some y7
def M29(F:Nat)(a1:(List (List UInt8))):Option (List (List UInt8)):=
 nilq a1.length (fun b2=>if b2=true then some ([]:List (List UInt8))
 else if (([]:List (List UInt8))++a1).length*16<=140737488355328 then some (([]:List (List UInt8))++a1) else none)
def M25(F:Nat)(a1:TIface):Option TIface:=
 (M29 F a1.Methods).bind fun y2=>some (TIface.mk a1.Name y2)
def M24(F:Nat)(a1:TIface):Option (List UInt8):=
 some (a1.Name)
def M59(F:Nat)(a1:TIface)(a2:TIface):Option Int:=
 (M24 F a1).bind fun y3=>(M24 F a2).bind fun y5=>(M56 F y3 y5).bind fun y7=>some y7
def M58(F:Nat)(a1:List TIface):Option (List TIface):=srtM (fun x3 y4=>M59 F x3 y4) a1
def M23_L1(F:Nat)(k2:(List TIface)->Option (List TIface)):List TIface->(List TIface)->Option (List TIface)
 |[],l7=>k2 l7
 |x9::tl1,l7=>(M25 F x9).bind fun y11=>if (l7++([y11]:List TIface)).length*40<=140737488355328 then M23_L1 F k2 tl1 (l7++([y11]:List TIface)) else none
def M23(F:Nat)(a1:(List TIface)):Option (List TIface):=
 jn (fun(l3:List TIface)=>(M58 F l3).bind fun y15=>if y15.length=l3.length then some y15 else none) (fun k2=>M23_L1 F k2 a1 ([]:List TIface))
def M62(F:Nat)(a1:(List TMethod)):Option (List TMethod):=
 nilq a1.length (fun b2=>if b2=true then some ([]:List TMethod)
 else if (([]:List TMethod)++a1).length*32<=140737488355328 then some (([]:List TMethod)++a1) else none)
def M28(F:Nat)(a1:TType):Option TType:=
 (M62 F a1.Methods).bind fun y2=>some (TType.mk a1.Name y2)
def M27(F:Nat)(a1:TType):Option (List UInt8):=
 some (a1.Name)
def M61(F:Nat)(a1:TType)(a2:TType):Option Int:=
 (M27 F a1).bind fun y3=>(M27 F a2).bind fun y5=>(M56 F y3 y5).bind fun y7=>some y7
def M60(F:Nat)(a1:List TType):Option (List TType):=srtM (fun x3 y4=>M61 F x3 y4) a1
def M26_L1(F:Nat)(k2:(List TType)->Option (List TType)):List TType->(List TType)->Option (List TType)
 |[],l7=>k2 l7
 |x9::tl1,l7=>(M28 F x9).bind fun y11=>if (l7++([y11]:List TType)).length*40<=140737488355328 then M26_L1 F k2 tl1 (l7++([y11]:List TType)) else none
def M26(F:Nat)(a1:(List TType)):Option (List TType):=
 jn (fun(l3:List TType)=>(M60 F l3).bind fun y15=>if y15.length=l3.length then some y15 else none) (fun k2=>M26_L1 F k2 a1 ([]:List TType))
def M6_L3(F:Nat)(m9:List (TSite×Bool))(x48:TFunc)(k52:(List TCall)->Option (TGraph×Int)):List TCall->Int->(List TCall)->Option (TGraph×Int)
  |[],n56,l57=>k52 l57
  |x59::tl3,n56,l57=>jn (fun(l62:List TCall)=>M6_L3 F m9 x48 k52 tl3 (n56+1) l62) (fun k61=>if (!((mget m9 (TSite.mk x48.Name n56)).getD false))=true then if (l57++([x59]:List TCall)).length*56<=140737488355328 then k61 (l57++([x59]:List TCall)) else none
 else k61 l57)
def M6_L2(F:Nat)(m9:List (TSite×Bool))(k39:(List TFunc)->Option (TGraph×Int)):List TFunc->(List TFunc)->Option (TGraph×Int)
 |[],l44=>k39 l44
 |x48::tl2,l44=>jn (fun(l47:List TFunc)=>M6_L2 F m9 k39 tl2 l47) (fun k46=>(M29 F x48.Makes).bind fun y50=>jn (fun(l53:List TCall)=>if (l44++([(TFunc.mk x48.Name x48.Component l53 y50)]:List TFunc)).length*80<=140737488355328 then k46 (l44++([(TFunc.mk x48.Name x48.Component l53 y50)]:List TFunc)) else none) (fun k52=>M6_L3 F m9 x48 k52 x48.Calls 0 ([]:List TCall)))
def M6_L1(F:Nat)(a1:TGraph)(a2:(List TSite))(x10:Treach_world)(k8:(List (TSite×Bool))->Option (TGraph×Int)):List TSite->Int->(List (TSite×Bool))->Option (TGraph×Int)
  |[],n14,m15=>k8 m15
  |x17::tl1,n14,m15=>jn (fun(b20:Bool)=>M6_L1 F a1 a2 x10 k8 tl1 (n14+1) (mput m15 x17 true)) (fun k19=>if (!((mget x10.funcs x17.Func).isSome))=true then some ((TGraph.mk ([]:List TIface) ([]:List TType) ([]:List TFunc) ([]:List (List UInt8))),4)
 else if (decide (x17.Call<0))=true then some ((TGraph.mk ([]:List TIface) ([]:List TType) ([]:List TFunc) ([]:List (List UInt8))),9)
 else (idx a1.Funcs ((mget x10.funcs x17.Func).getD 0)).bind fun x23=>if (decide (x17.Call>=((x23.Calls.length:Nat):Int)))=true then some ((TGraph.mk ([]:List TIface) ([]:List TType) ([]:List TFunc) ([]:List (List UInt8))),9)
 else if (decide (n14>0))=true then (idx a2 (w64 (n14 - 1))).bind fun x27=>(M22 F x27 x17).bind fun y29=>if (decide (y29>=0))=true then some ((TGraph.mk ([]:List TIface) ([]:List TType) ([]:List TFunc) ([]:List (List UInt8))),10)
 else k19 (decide (x17.Call>=((x23.Calls.length:Nat):Int)))
 else k19 (decide (x17.Call>=((x23.Calls.length:Nat):Int))))
def M6(F:Nat)(a1:TGraph)(a2:(List TSite)):Option (TGraph×Int):=
 (M20 F a1).bind fun y3=>if (y3 != 0)=true then some ((TGraph.mk ([]:List TIface) ([]:List TType) ([]:List TFunc) ([]:List (List UInt8))),y3)
 else (M21 F a1 1 ([]:List (List UInt8))).bind fun y6=>jn (fun(m9:List (TSite×Bool))=>(M23 F a1.Ifaces).bind fun y33=>(M26 F a1.Types).bind fun y35=>(M29 F a1.Entries).bind fun y37=>jn (fun(l40:List TFunc)=>some ((TGraph.mk y33 y35 l40 y37),0)) (fun k39=>M6_L2 F m9 k39 a1.Funcs ([]:List TFunc))) (fun k8=>(y6).bind fun x10=>M6_L1 F a1 a2 x10 k8 a2 0 ([]:List (TSite×Bool)))
def M63_L4(F:Nat)(k35:(List ((List UInt8)×Bool))->Option Tprovenderref6_names):List TFunc->(List ((List UInt8)×Bool))->Option Tprovenderref6_names
 |[],m40=>k35 m40
 |x42::tl4,m40=>M63_L4 F k35 tl4 (mput m40 x42.Name true)
def M63_L3(F:Nat)(k25:(List ((List UInt8)×Bool))->Option Tprovenderref6_names):List TType->(List ((List UInt8)×Bool))->Option Tprovenderref6_names
 |[],m30=>k25 m30
 |x32::tl3,m30=>M63_L3 F k25 tl3 (mput m30 x32.Name true)
def M63_L2(F:Nat)(x11:TIface)(k13:(List ((List UInt8)×(List ((List UInt8)×Bool))))->Option Tprovenderref6_names):List (List UInt8)->(List ((List UInt8)×(List ((List UInt8)×Bool))))->Option Tprovenderref6_names
 |[],m18=>k13 m18
 |x20::tl2,m18=>if (mget m18 x11.Name).isSome=true then M63_L2 F x11 k13 tl2 (mput m18 x11.Name (mput ((mget m18 x11.Name).getD []) x20 true)) else none
def M63_L1(F:Nat)(k2:(List ((List UInt8)×(List ((List UInt8)×Bool))))->Option Tprovenderref6_names):List TIface->(List ((List UInt8)×(List ((List UInt8)×Bool))))->Option Tprovenderref6_names
 |[],m7=>k2 m7
 |x11::tl1,m7=>jn (fun(m10:List ((List UInt8)×(List ((List UInt8)×Bool))))=>M63_L1 F k2 tl1 m10) (fun k9=>jn (fun(m14:List ((List UInt8)×(List ((List UInt8)×Bool))))=>k9 m14) (fun k13=>M63_L2 F x11 k13 x11.Methods (mput m7 x11.Name ([]:List ((List UInt8)×Bool)))))
def M63(F:Nat)(a1:TGraph):Option Tprovenderref6_names:=
 jn (fun(m3:List ((List UInt8)×(List ((List UInt8)×Bool))))=>jn (fun(m26:List ((List UInt8)×Bool))=>jn (fun(m36:List ((List UInt8)×Bool))=>some (Tprovenderref6_names.mk m3 m26 m36)) (fun k35=>M63_L4 F k35 a1.Funcs ([]:List ((List UInt8)×Bool)))) (fun k25=>M63_L3 F k25 a1.Types ([]:List ((List UInt8)×Bool)))) (fun k2=>M63_L1 F k2 a1.Ifaces ([]:List ((List UInt8)×(List ((List UInt8)×Bool)))))
def M88_L1(F:Nat)(a1:(List UInt8))(k2:Option Bool):Nat->Int->Option Bool
  |0,n4=>k2
  |tl1+1,n4=>(idx a1 n4).bind fun c6=>if (decide ((c6.toNat:Int)<33))=true then some false
 else (idx a1 n4).bind fun c9=>if (decide ((c9.toNat:Int)>126))=true then some false
 else (idx a1 n4).bind fun c12=>if ((c12.toNat:Int)==35)=true then some false
 else M88_L1 F a1 k2 tl1 (n4+1)
def M88(F:Nat)(a1:(List UInt8)):Option Bool:=
 jn (if (decide ((a1.length:Int)>=1))=true then some (decide ((a1.length:Int)<=100))
 else some false) (fun k2=>if (a1.length:Int)<=9223372036854775807 then M88_L1 F a1 k2 (((a1.length:Int):Int).toNat) 0 else none)
def M86(F:Nat)(a1:(List (List UInt8)))(a2:Int):Option Int:=
 if (decide (a2>0))=true then (idx a1 a2).bind fun x4=>(idx a1 (w64 (a2 - 1))).bind fun x6=>if (Op.bytesLess x4 x6||x4==x6)=true then some 10
 else some 0
 else some 0
def M83_L2(F:Nat)(x10:TIface)(k18:Option Int):List (List UInt8)->Int->Option Int
  |[],n20=>k18
  |x22::tl2,n20=>(M88 F x22).bind fun y24=>if (!y24)=true then some 8
 else (M86 F x10.Methods n20).bind fun y27=>if (y27 != 0)=true then some y27
 else M83_L2 F x10 k18 tl2 (n20+1)
def M83_L1(F:Nat)(k2:Option Int):List TIface->(List UInt8)->Option Int
  |[],s5=>k2
  |x10::tl1,s5=>jn (fun(s9:List UInt8)=>M83_L1 F k2 tl1 s9) (fun k8=>(M88 F x10.Name).bind fun y12=>if (!y12)=true then some 8
 else if (Op.bytesLess x10.Name s5||x10.Name==s5)=true then some 10
 else if (((x10.Methods.length:Nat):Int)==0)=true then some 13
 else if (decide (((x10.Methods.length:Nat):Int)>200))=true then some 3
 else jn (k8 x10.Name) (fun k18=>M83_L2 F x10 k18 x10.Methods 0))
def M83(F:Nat)(a1:Tprovenderref6_checker):Option Int:=
 jn (some 0) (fun k2=>M83_L1 F k2 a1.g.Ifaces ([]:List UInt8))
def M84_L2(F:Nat)(a1:Tprovenderref6_checker)(k17:Option Int):List TMethod->(List UInt8)->Option Int
  |[],s20=>k17
  |x23::tl2,s20=>(M88 F x23.Name).bind fun y25=>jn (M84_L2 F a1 k17 tl2 x23.Name) (fun k27=>if (!y25)=true then some 8
 else if (Op.bytesLess x23.Name s20||x23.Name==s20)=true then some 10
 else if (!a1.loose)=true then if (!((mget a1.n.funcs x23.Func).getD false))=true then some 4
 else k27
 else k27)
def M84_L1(F:Nat)(a1:Tprovenderref6_checker)(k2:Option Int):List TType->(List UInt8)->Option Int
  |[],s5=>k2
  |x10::tl1,s5=>jn (fun(s9:List UInt8)=>M84_L1 F a1 k2 tl1 s9) (fun k8=>(M88 F x10.Name).bind fun y12=>if (!y12)=true then some 8
 else if (Op.bytesLess x10.Name s5||x10.Name==s5)=true then some 10
 else if (decide (((x10.Methods.length:Nat):Int)>200))=true then some 3
 else jn (k8 x10.Name) (fun k17=>M84_L2 F a1 k17 x10.Methods ([]:List UInt8)))
def M84(F:Nat)(a1:Tprovenderref6_checker):Option Int:=
 jn (some 0) (fun k2=>M84_L1 F a1 k2 a1.g.Types ([]:List UInt8))
def M126(F:Nat)(a1:Tprovenderref6_checker)(a2:TCall):Option Int:=
 jn (if (!(a2.Feature==([]:List UInt8)))=true then (M88 F a2.Feature).bind fun y15=>if (!y15)=true then some 8
 else some 0
 else some 0) (fun k3=>if (a2.Kind==1)=true then if (!a1.loose)=true then if (!((mget a1.n.funcs a2.Target).getD false))=true then some 4
 else if (!(a2.Method==([]:List UInt8)))=true then some 2
 else k3
 else if (!(a2.Method==([]:List UInt8)))=true then some 2
 else k3
 else if (a2.Kind==2)=true then if ((mget a1.n.ifaces a2.Target).isSome)=true then if (!a1.loose)=true then if (!((mget ((mget a1.n.ifaces a2.Target).getD []) a2.Method).getD false))=true then some 4
 else k3
 else k3
 else if (!a1.loose)=true then some 4
 else k3
 else some 7)
def M85_L3(F:Nat)(a1:Tprovenderref6_checker)(x10:TFunc)(k30:Option Int):List (List UInt8)->Int->Option Int
  |[],n32=>k30
  |x35::tl3,n32=>jn (M85_L3 F a1 x10 k30 tl3 (n32+1)) (fun k34=>if (!a1.loose)=true then if (!((mget a1.n.types x35).getD false))=true then some 4
 else (M86 F x10.Makes n32).bind fun y39=>if (y39 != 0)=true then some y39
 else k34
 else (M86 F x10.Makes n32).bind fun y42=>if (y42 != 0)=true then some y42
 else k34)
def M85_L2(F:Nat)(a1:Tprovenderref6_checker)(k20:Option Int):List TCall->Option Int
  |[]=>k20
  |x24::tl2=>(M126 F a1 x24).bind fun y26=>if (y26 != 0)=true then some y26
 else M85_L2 F a1 k20 tl2
def M85_L1(F:Nat)(a1:Tprovenderref6_checker)(k2:Option Int):List TFunc->(List UInt8)->Option Int
  |[],s5=>k2
  |x10::tl1,s5=>jn (fun(s9:List UInt8)=>M85_L1 F a1 k2 tl1 s9) (fun k8=>(M88 F x10.Name).bind fun y12=>if (!y12)=true then some 8
 else if (Op.bytesLess x10.Name s5||x10.Name==s5)=true then some 10
 else (M88 F x10.Component).bind fun y16=>if (!y16)=true then some 8
 else if (decide (((x10.Calls.length:Nat):Int)>200))=true then some 3
 else jn (jn (k8 x10.Name) (fun k30=>M85_L3 F a1 x10 k30 x10.Makes 0)) (fun k20=>M85_L2 F a1 k20 x10.Calls))
def M85(F:Nat)(a1:Tprovenderref6_checker):Option Int:=
 jn (some 0) (fun k2=>M85_L1 F a1 k2 a1.g.Funcs ([]:List UInt8))
def M64_L1(F:Nat)(a1:Tprovenderref6_checker)(k14:Option Int):List (List UInt8)->Int->Option Int
  |[],n16=>k14
  |x19::tl1,n16=>jn (M64_L1 F a1 k14 tl1 (n16+1)) (fun k18=>if (!a1.loose)=true then if (!((mget a1.n.funcs x19).getD false))=true then some 4
 else (M86 F a1.g.Entries n16).bind fun y23=>if (y23 != 0)=true then some y23
 else k18
 else (M86 F a1.g.Entries n16).bind fun y26=>if (y26 != 0)=true then some y26
 else k18)
def M64(F:Nat)(a1:Tprovenderref6_checker):Option Int:=
 if (decide (((a1.g.Ifaces.length:Nat):Int)>200))=true then some 3
 else if (decide (((a1.g.Types.length:Nat):Int)>500))=true then some 3
 else if (decide (((a1.g.Funcs.length:Nat):Int)>3000))=true then some 3
 else (M83 F a1).bind fun y5=>if (y5 != 0)=true then some y5
 else (M84 F a1).bind fun y8=>if (y8 != 0)=true then some y8
 else (M85 F a1).bind fun y11=>if (y11 != 0)=true then some y11
 else jn (some 0) (fun k14=>M64_L1 F a1 k14 a1.g.Entries 0)
def M30(F:Nat)(a1:TGraph):Option Int:=
 (M63 F a1).bind fun y2=>(M64 F (Tprovenderref6_checker.mk a1 y2 false)).bind fun y4=>some y4
def M65_L1(F:Nat)(a2:(List UInt8))(k3:Option (TFunc×Bool)):List TFunc->Option (TFunc×Bool)
  |[]=>k3
  |x7::tl1=>if (x7.Name==a2)=true then some (x7,true)
 else M65_L1 F a2 k3 tl1
def M65(F:Nat)(a1:TGraph)(a2:(List UInt8)):Option (TFunc×Bool):=
 jn (some ((TFunc.mk ([]:List UInt8) ([]:List UInt8) ([]:List TCall) ([]:List (List UInt8))),false)) (fun k3=>M65_L1 F a2 k3 a1.Funcs)
def M31(F:Nat)(a1:TGraph)(a2:TSite):Option (TCall×Int):=
 (M65 F a1 a2.Func).bind fun y3=>if (!(y3.2))=true then some ((TCall.mk 0 ([]:List UInt8) ([]:List UInt8) ([]:List UInt8)),4)
 else if (decide (a2.Call<0))=true then some ((TCall.mk 0 ([]:List UInt8) ([]:List UInt8) ([]:List UInt8)),9)
 else if (decide (a2.Call>=(((y3.1).Calls.length:Nat):Int)))=true then some ((TCall.mk 0 ([]:List UInt8) ([]:List UInt8) ([]:List UInt8)),9)
 else (idx (y3.1).Calls a2.Call).bind fun x8=>some (x8,0)
def M32(F:Nat)(a1:TSite)(a2:TSite):Option Bool:=
 if (Op.bytesLess a1.Func a2.Func)=true then some true
 else if (a1.Func==a2.Func)=true then some (decide (a1.Call<a2.Call))
 else some false
def M7_L3(F:Nat)(m7:List (TSite×Bool))(x36:TFunc)(k38:(List TCall)->Option (TGraph×Int)):List TCall->Int->(List TCall)->Option (TGraph×Int)
  |[],n42,l43=>k38 l43
  |x45::tl3,n42,l43=>jn (fun(l48:List TCall)=>M7_L3 F m7 x36 k38 tl3 (n42+1) l48) (fun k47=>if (!((mget m7 (TSite.mk x36.Name n42)).getD false))=true then if (l43++([x45]:List TCall)).length*56<=140737488355328 then k47 (l43++([x45]:List TCall)) else none
 else k47 l43)
def M7_L2(F:Nat)(m7:List (TSite×Bool))(k27:(List TFunc)->Option (TGraph×Int)):List TFunc->(List TFunc)->Option (TGraph×Int)
 |[],l32=>k27 l32
 |x36::tl2,l32=>jn (fun(l35:List TFunc)=>M7_L2 F m7 k27 tl2 l35) (fun k34=>jn (fun(l39:List TCall)=>if (l32++([(TFunc.mk x36.Name x36.Component l39 x36.Makes)]:List TFunc)).length*80<=140737488355328 then k34 (l32++([(TFunc.mk x36.Name x36.Component l39 x36.Makes)]:List TFunc)) else none) (fun k38=>M7_L3 F m7 x36 k38 x36.Calls 0 ([]:List TCall)))
def M7_L1(F:Nat)(a1:TGraph)(a2:(List TSite))(k6:(List (TSite×Bool))->Option (TGraph×Int)):List TSite->Int->(List (TSite×Bool))->Option (TGraph×Int)
  |[],n10,m11=>k6 m11
  |x15::tl1,n10,m11=>jn (fun(m14:List (TSite×Bool))=>M7_L1 F a1 a2 k6 tl1 (n10+1) m14) (fun k13=>(M31 F a1 x15).bind fun y17=>if ((y17.2) != 0)=true then some ((TGraph.mk ([]:List TIface) ([]:List TType) ([]:List TFunc) ([]:List (List UInt8))),(y17.2))
 else if (decide (n10>0))=true then (idx a2 (w64 (n10 - 1))).bind fun x21=>(M32 F x21 x15).bind fun y23=>if (!y23)=true then some ((TGraph.mk ([]:List TIface) ([]:List TType) ([]:List TFunc) ([]:List (List UInt8))),10)
 else k13 (mput m11 x15 true)
 else k13 (mput m11 x15 true))
def M7(F:Nat)(a1:TGraph)(a2:(List TSite)):Option (TGraph×Int):=
 (M30 F a1).bind fun y3=>if (y3 != 0)=true then some ((TGraph.mk ([]:List TIface) ([]:List TType) ([]:List TFunc) ([]:List (List UInt8))),y3)
 else jn (fun(m7:List (TSite×Bool))=>jn (fun(l28:List TFunc)=>some ((TGraph.mk a1.Ifaces a1.Types l28 a1.Entries),0)) (fun k27=>M7_L2 F m7 k27 a1.Funcs ([]:List TFunc))) (fun k6=>M7_L1 F a1 a2 k6 a2 0 ([]:List (TSite×Bool)))
def M9_L1(F:Nat)(a1:TGraph)(k13:(List (List UInt8))->Option ((List (List UInt8))×Int)):List Bool->Int->(List (List UInt8))->Option ((List (List UInt8))×Int)
  |[],n17,l18=>k13 l18
  |x20::tl1,n17,l18=>jn (fun(l23:List (List UInt8))=>M9_L1 F a1 k13 tl1 (n17+1) l23) (fun k22=>if x20=true then (idx a1.Funcs n17).bind fun x25=>if (l18++([x25.Name]:List (List UInt8))).length*16<=140737488355328 then k22 (l18++([x25.Name]:List (List UInt8))) else none
 else k22 l18)
def M9(F:Nat)(a1:TGraph)(a2:Int)(a3:(List (List UInt8))):Option ((List (List UInt8))×Int):=
 (M34 F a1 a2 a3).bind fun y4=>if ((y4.2) != 0)=true then some (([]:List (List UInt8)),(y4.2))
 else ((y4.1)).bind fun x7=>(M16 F x7 (-1)).bind fun y9=>(y9).bind fun x11=>jn (fun(l14:List (List UInt8))=>some (l14,0)) (fun k13=>M9_L1 F a1 k13 x11.funcs 0 ([]:List (List UInt8)))
def M33_L1(F:Nat)(a2:(List (List UInt8)))(k4:Option Bool):List (List UInt8)->Int->Option Bool
  |[],n6=>k4
  |x8::tl1,n6=>(idx a2 n6).bind fun x10=>if (!(x8==x10))=true then some false
 else M33_L1 F a2 k4 tl1 (n6+1)
def M33(F:Nat)(a1:(List (List UInt8)))(a2:(List (List UInt8))):Option Bool:=
 if (((a1.length:Nat):Int) != ((a2.length:Nat):Int))=true then some false
 else jn (some true) (fun k4=>M33_L1 F a2 k4 a1 0)
def M8(F:Nat):Option Bool:=
 (M9 F (TGraph.mk ([]:List TIface) ([]:List TType) ([(TFunc.mk ([97]:List UInt8) ([120]:List UInt8) ([(TCall.mk 1 ([98]:List UInt8) ([]:List UInt8) ([]:List UInt8))]:List TCall) ([]:List (List UInt8))),(TFunc.mk ([98]:List UInt8) ([121]:List UInt8) ([]:List TCall) ([]:List (List UInt8)))]:List TFunc) ([([97]:List UInt8)]:List (List UInt8))) 1 ([]:(List (List UInt8)))).bind fun y1=>if ((y1.2)==0)=true then (M33 F (y1.1) ([([97]:List UInt8),([98]:List UInt8)]:List (List UInt8))).bind fun y4=>some y4
 else some false
def M3(F:Nat)(a1:TGraph)(a2:(List (List UInt8)))(a3:(List UInt8))(a4:(List TSite)):Option Bool:=
 (M5 F a1 a2 a3).bind fun y5=>(M6 F a1 a4).bind fun y7=>if ((y5.2.2) != 0)=true then (M7 F a1 a4).bind fun y10=>if ((y7.2)==(y10.2))=true then (M8 F).bind fun y13=>some y13
 else some false
 else if ((y7.2) != 0)=true then (M7 F a1 a4).bind fun y16=>if ((y7.2)==(y16.2))=true then (M8 F).bind fun y19=>some y19
 else some false
 else if (y5.2.1)=true then if (decide (((a4.length:Nat):Int)>=(((y5.1).length:Nat):Int)))=true then (M7 F a1 a4).bind fun y23=>if ((y7.2)==(y23.2))=true then (M8 F).bind fun y26=>some y26
 else some false
 else (M9 F (y7.1) 1 a2).bind fun y28=>if ((y28.2)==0)=true then (M10 F (y28.1) a3).bind fun y31=>if y31=true then (M8 F).bind fun y34=>some y34
 else some false
 else some false
 else (M9 F (y7.1) 1 a2).bind fun y36=>if ((y36.2)==0)=true then (M10 F (y36.1) a3).bind fun y39=>if y39=true then (M8 F).bind fun y42=>some y42
 else some false
 else some false
end
end Go.Proofs.YtcihpgamojpcnaaGreat
namespace Go.Pv
open Go
theorem w64_id{n:Int}(h : -9223372036854775808<=n)(h':n<=9223372036854775807):w64 n=n:=by
 have:w64 n=if n % 18446744073709551616>=9223372036854775808 then n % 18446744073709551616 - 18446744073709551616 else n % 18446744073709551616:=by
  simp[w64,IntKind.wrap,IntKind.signed,IntKind.bits]
 rw[this]
 split<;>omega
theorem jn_def{α β:Type}(k:α)(b:α->β):jn k b=b k:=rfl
theorem idx_nat{α:Type}{xs:List α}{j:Nat}(h:j<xs.length):idx xs (j:Int)=some xs[j]:=by
 simp[idx,h]
theorem if_t{α:Type}{p:Prop}[Decidable p]{x y:α}(h:p):(if decide p=true then x else y)=x:=by simp[h]
theorem if_f{α:Type}{p:Prop}[Decidable p]{x y:α}(h:¬p):(if decide p=true then x else y)=y:=by simp[h]
theorem mid_nat{a b:Nat}(h:a+b<4611686018427387904):w64 (Int.fdiv (IntKind.wrap .u64 (w64 ((a:Int)+(b:Int)))) (2 ^ (min (Int.toNat 1) (IntKind.bits .u64))))=(((a+b) / 2:Nat):Int):=by
 rw[w64_id (n:=(a:Int)+b) (by omega) (by omega)]
 have:IntKind.wrap .u64 ((a:Int)+b)=((a+b:Nat):Int):=by
  simp only[IntKind.wrap,IntKind.signed,IntKind.bits,Bool.false_and]
  simp
  omega
 rw[this]
 have e:(2:Int) ^ (min (Int.toNat 1) (IntKind.bits .u64))=2:=by decide
 rw[e,Int.fdiv_eq_ediv_of_nonneg _ (by omega)]
 rw[w64_id (by omega) (by omega)]
 omega
theorem mget_mput{α β:Type}[DecidableEq α](xs:List (α×β))(k k':α)(v:β):mget (mput xs k v) k'=if k=k' then some v else mget xs k':=by
 induction xs with
 |nil=>simp[mput,mget]
 |cons p r ih=>
  simp only[mput]
  split
  ·rename_i h
   simp only[mget,h]
   split<;>simp_all
  ·rename_i h
   simp only[mget]
   by_cases h2:p.1=k'
   ·rw[if_pos h2,if_pos h2,if_neg (fun e=>h (h2.trans e.symm))]
   ·rw[if_neg h2,if_neg h2];exact ih
theorem bl_cons(x:UInt8)(a:List UInt8)(y:UInt8)(b:List UInt8):Op.bytesLess (x::a) (y::b)=(decide (x<y)||(x==y&&Op.bytesLess a b)):=by
 rw[Op.bytesLess]
theorem bl_irrefl:∀a:List UInt8,Op.bytesLess a a=false
 |[]=>by simp[Op.bytesLess]
 |x::a=>by rw[bl_cons,bl_irrefl a];simp
theorem bl_trans:∀{a b c:List UInt8},Op.bytesLess a b=true->Op.bytesLess b c=true->Op.bytesLess a c=true
 |[],[],_,h,_=>by simp[Op.bytesLess] at h
 |[],y::b,[],_,h=>by simp[Op.bytesLess] at h
 |[],y::b,z::c,_,_=>by simp[Op.bytesLess]
 |x::a,[],_,h,_=>by simp[Op.bytesLess] at h
 |x::a,y::b,[],_,h=>by simp[Op.bytesLess] at h
 |x::a,y::b,z::c,h,g=>by
  rw[bl_cons] at *
  simp only[Bool.or_eq_true,decide_eq_true_eq,Bool.and_eq_true,beq_iff_eq,UInt8.lt_iff_toNat_lt] at *
  rcases h with h|⟨rfl,h⟩<;>rcases g with g|⟨rfl,g⟩
  ·exact .inl (by omega)
  ·exact .inl h
  ·exact .inl g
  ·exact .inr ⟨rfl,bl_trans h g⟩
theorem bl_tri:∀a b:List UInt8,Op.bytesLess a b=true\/a=b\/Op.bytesLess b a=true
 |[],[]=>by simp
 |[],y::b=>by simp[Op.bytesLess]
 |x::a,[]=>by simp[Op.bytesLess]
 |x::a,y::b=>by
  rw[bl_cons,bl_cons]
  simp only[Bool.or_eq_true,decide_eq_true_eq,Bool.and_eq_true,beq_iff_eq,UInt8.lt_iff_toNat_lt,List.cons.injEq]
  rcases Nat.lt_trichotomy x.toNat y.toNat with h|h|h
  ·exact .inl (.inl h)
  ·have:=UInt8.toNat_inj.1 h
   subst this
   rcases bl_tri a b with h|h|h
   ·exact .inl (.inr ⟨rfl,h⟩)
   ·exact .inr (.inl ⟨rfl,h⟩)
   ·exact .inr (.inr (.inr ⟨rfl,h⟩))
  ·exact .inr (.inr (.inl h))
theorem bl_asymm{a b:List UInt8}(h:Op.bytesLess a b=true):Op.bytesLess b a=false:=by
 cases h':Op.bytesLess b a with
 |false=>rfl
 |true=>have:=bl_trans h h';rw[bl_irrefl] at this;simp at this
theorem bl_ne{a b:List UInt8}(h:Op.bytesLess a b=true):a≠b:=by rintro rfl;rw[bl_irrefl] at h;simp at h
theorem idxL{α:Type}{g:List α->Int->Option Int}{k:Option Int}(p:α->Bool)(h0:∀n,g [] n=k)(h1:∀x l n,g (x::l) n=if p x=true then some n else g l (n+1)):
  ∀l (n:Nat),g l n=if l.any p=true then some ((n+l.findIdx p:Nat):Int) else k
 |[],n=>by simp[h0]
 |x::l,n=>by
  have e:((n:Int)+1)=((n+1:Nat):Int):=rfl
  rw[h1,e,idxL p h0 h1 l (n+1)]
  cases h:p x
  ·have e2:n+1+l.findIdx p=n+(l.findIdx p+1):=by omega
   simp only[List.any_cons,h,Bool.false_or,List.findIdx_cons,cond_false,e2,Bool.false_eq_true,if_false]
  ·simp[List.findIdx_cons,h]
theorem bytesL{β:Type}{g:Nat->Int->Option β}{k:Option β}{f:β}(s:List UInt8)(p:UInt8->Bool)(h0:∀n,g 0 n=k)
  (h1:∀m n,g (m+1) n=(idx s n).bind fun c=>if p c=true then g m (n+1) else some f):
  ∀(m n:Nat),n+m=s.length->g m n=if (s.drop n).all p=true then k else some f
 |0,n,h=>by rw[h0,List.drop_eq_nil_of_le (by omega)];simp
 |m+1,n,h=>by
  have hn:n<s.length:=by omega
  have e:((n:Int)+1)=((n+1:Nat):Int):=rfl
  rw[h1,idx_nat hn,Option.bind_some,e,bytesL s p h0 h1 m (n+1) (by omega),List.drop_eq_getElem_cons hn,List.all_cons]
  cases h:p s[n]
  ·simp only[Bool.false_and,Bool.false_eq_true,if_false]
  ·simp only[Bool.true_and,if_true]
theorem ite2{α:Type}{p q:Prop}[Decidable p][Decidable q]{x y:Option α}{a b:α}(h:p<->q)(h1:q->x=some a)(h2:¬q->y=some b):(if p then x else y)=some (if q then a else b):=by
 by_cases hq:q
 ·rw[if_pos (h.2 hq),if_pos hq,h1 hq]
 ·rw[if_neg (fun hp=>hq (h.1 hp)),if_neg hq,h2 hq]
theorem ne0{n:Int}:(n != 0)=true<->n≠0:=by simp
set_option linter.unusedVariables false
set_option linter.unusedSimpArgs false
structure SetOk(m:List (List UInt8×Bool)):Prop where
 srt:(m.map (·.1)).Pairwise (fun a b=>Op.bytesLess a b=true)
 all:∀p,p∈m->p.2=true
theorem SetOk.nil:SetOk []:=⟨by simp,by simp⟩
theorem mget_mem{α:Type}:∀(m:List (List UInt8×α)) (x:List UInt8),(mget m x).isSome=true<->x∈m.map (·.1)
 |[],x=>by simp[mget]
 |p::m,x=>by
  simp only[mget,List.map_cons,List.mem_cons]
  by_cases h:p.1=x
  ·simp[h]
  ·rw[if_neg h,mget_mem m x]
   exact⟨.inr,fun q=>q.elim (fun e=>absurd e.symm h) (fun h=>h)⟩
theorem mget_in{α:Type}:∀(m:List (List UInt8×α)) (x:List UInt8) (v:α),mget m x=some v->(x,v)∈m
 |[],x,v,h=>by simp[mget] at h
 |p::m,x,v,h=>by
  simp only[mget] at h
  split at h
  ·rename_i e;simp at h;subst e;subst h;exact List.mem_cons_self
  ·exact List.mem_cons_of_mem _ (mget_in m x v h)
theorem SetOk.get{m:List (List UInt8×Bool)}(h:SetOk m)(x:List UInt8):(mget m x).getD false=true<->x∈m.map (·.1):=by
 rw[<-mget_mem]
 cases hg:mget m x with
 |none=>simp
 |some v=>simp;exact h.all _ (mget_in m x v hg)
theorem swoM_spec{T:Type}{cmp:T->T->Option Int}{l:List T}(hswo:swoM cmp l=true):∀x∈l,cltM cmp x x=false/\∀y∈l,(cmp x y).isSome=true/\∀z∈l,(cltM cmp x y=true->cltM cmp y z=true->cltM cmp x z=true)/\(cltM cmp x y=false->cltM cmp y z=false->cltM cmp x z=false):=by
 intro x hx
 unfold swoM at hswo
 have h1:=List.all_eq_true.1 hswo x hx
 simp only[Bool.and_eq_true,Bool.not_eq_true',List.all_eq_true] at h1
 refine⟨h1.1,fun y hy=>?_⟩
 have h2:=h1.2 y hy
 refine⟨h2.1,fun z hz=>?_⟩
 have h3:=h2.2 z hz
 revert h3
 cases cltM cmp x y<;>cases cltM cmp y z<;>cases cltM cmp x z<;>simp
theorem dstM_pw{T:Type}{cmp:T->T->Option Int}:∀{l:List T},dstM cmp l=true<->l.Pairwise fun x y=>(cltM cmp x y||cltM cmp y x)=true
 |[]=>by simp[dstM]
 |x::l=>by rw[dstM,Bool.and_eq_true,List.pairwise_cons,dstM_pw,List.all_eq_true]
theorem ascM_of{T:Type}{cmp:T->T->Option Int}:∀{l:List T},(l.Pairwise fun x y=>cltM cmp y x=false)->ascM cmp l=true
 |[],_=>rfl
 |x::l,h=>by
  rw[List.pairwise_cons] at h
  simp only[ascM,Bool.and_eq_true,List.all_eq_true,Bool.not_eq_true']
  exact⟨h.1,ascM_of h.2⟩
theorem ms_asc{T:Type}{cmp:T->T->Option Int}{l:List T}(h:swoM cmp l=true):(l.mergeSort fun x y=>!cltM cmp y x).Pairwise fun x y=>cltM cmp y x=false:=by
 have hs:=swoM_spec h
 have h1:(l.attach.mergeSort fun x y=>!cltM cmp y.1 x.1).Pairwise fun x y=>(!cltM cmp y.1 x.1)=true:=by
  refine List.pairwise_mergeSort (le:=fun x y:{x // x∈l}=>!cltM cmp y.1 x.1) (fun a b c g g'=>?_) (fun a b=>?_) _
  ·simp only[Bool.not_eq_true'] at *
   exact(((hs c.1 c.2).2 b.1 b.2).2 a.1 a.2).2 g' g
  ·cases e1:cltM cmp b.1 a.1 with
   |false=>rfl
   |true=>
    cases e2:cltM cmp a.1 b.1 with
    |false=>rfl
    |true=>
     have:=(((hs a.1 a.2).2 b.1 b.2).2 a.1 a.2).1 e2 e1
     rw[(hs a.1 a.2).1] at this
     simp at this
 have h2:=List.map_mergeSort (r:=fun x y:{x // x∈l}=>!cltM cmp y.1 x.1) (s:=fun x y=>!cltM cmp y x) (f:=Subtype.val) (l:=l.attach) (fun a _ b _=>rfl)
 rw[List.attach_map_subtype_val] at h2
 rw[<-h2,List.pairwise_map]
 exact h1.imp fun q=>by simpa using q
structure SLt{α:Type}(lt:α->α->Bool):Prop where
 irr:∀x,lt x x=false
 tr:∀{x y z},lt x y=true->lt y z=true->lt x z=true
 tri:∀x y,lt x y=true\/x=y\/lt y x=true
section
variable{α:Type}{lt:α->α->Bool}
theorem SLt.asy(h:SLt lt){x y:α}(g:lt x y=true):lt y x=false:=by
 cases e:lt y x with
 |false=>rfl
 |true=>have:=h.tr g e;rw[h.irr] at this;simp at this
theorem SLt.ntr(h:SLt lt){x y z:α}(g:lt x y=false)(g':lt y z=false):lt x z=false:=by
 cases e:lt x z with
 |false=>rfl
 |true=>
  rcases h.tri x y with q|q|q
  ·rw[q] at g;simp at g
  ·rw[q,g'] at e;simp at e
  ·have:=h.tr q e;rw[this] at g';simp at g'
theorem SLt.ext(h:SLt lt){a b:List α}(ha:a.Pairwise fun x y=>lt x y=true)(hb:b.Pairwise fun x y=>lt x y=true)(hm:∀z,z∈a<->z∈b):a=b:=by
 have nd:∀{c:List α},(c.Pairwise fun x y=>lt x y=true)->c.Nodup:=fun hc=>hc.imp fun {x y} q e=>by subst e;rw[h.irr] at q;simp at q
 exact List.Perm.eq_of_pairwise (le:=fun x y=>lt x y=true) (fun _ _ _ _ g g'=>by rw[h.asy g] at g';simp at g') ha hb ((List.perm_ext_iff_of_nodup (nd ha) (nd hb)).2 hm)
end
end Go.Pv
namespace Go.Proofs.YtcihpgamojpcnaaGreat
open Go Go.Pv
set_option linter.unusedVariables false
set_option maxRecDepth 100000
def hlf(n:Nat):Int:=w64 (Int.tdiv ((n:Nat):Int) 2)
end Go.Proofs.YtcihpgamojpcnaaGreat
