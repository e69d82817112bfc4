/- Part of the proof: R4M, Q. -/
import Derived.Test.YtjofofmllnpkpaaGreatDoorSR4T
import Derived.Test.YtjofofmllnpkpaaGreatDoorSPvU
namespace Go.Proofs.YtjofofmllnpkpaaGreatDoor
open Go Go.Pv
set_option linter.unusedVariables false
set_option maxRecDepth 100000
variable{mx:Int}
noncomputable section
def M60_L3(F:Nat)(k23:(List ((List UInt8)×Bool))->Option Treach_checker):List TFunc->(List ((List UInt8)×Bool))->Option Treach_checker
 |[],m28=>k23 m28
 |x30::tl3,m28=>M60_L3 F k23 tl3 (mput m28 x30.Name true)
def M60_L2(F:Nat)(k13:(List ((List UInt8)×Bool))->Option Treach_checker):List TType->(List ((List UInt8)×Bool))->Option Treach_checker
 |[],m18=>k13 m18
 |x20::tl2,m18=>M60_L2 F k13 tl2 (mput m18 x20.Name true)
def M60_L1(F:Nat)(k3:(List ((List UInt8)×TIface))->Option Treach_checker):List TIface->(List ((List UInt8)×TIface))->Option Treach_checker
 |[],m8=>k3 m8
 |x10::tl1,m8=>M60_L1 F k3 tl1 (mput m8 x10.Name x10)
def M60(F:Nat)(a1:TGraph)(a2:Bool):Option Treach_checker:=
 jn (fun(m4:List ((List UInt8)×TIface))=>jn (fun(m14:List ((List UInt8)×Bool))=>jn (fun(m24:List ((List UInt8)×Bool))=>some (Treach_checker.mk a2 m4 m14 m24)) (fun k23=>M60_L3 F k23 a1.Funcs ([]:List ((List UInt8)×Bool)))) (fun k13=>M60_L2 F k13 a1.Types ([]:List ((List UInt8)×Bool)))) (fun k3=>M60_L1 F k3 a1.Ifaces ([]:List ((List UInt8)×TIface)))
def M126_L1(F:Nat)(a1:(List UInt8))(k2:Option Bool):Nat->Int->Option Bool
  |0,n4=>k2
  |tl1+1,n4=>(idx a1 n4).bind fun c6=>if (decide ((c6.toNat:Int)<33))=true then some false
 else (idx a1 n4).bind fun c9=>if (decide ((c9.toNat:Int)>126))=true then some false
 else (idx a1 n4).bind fun c12=>if ((c12.toNat:Int)==35)=true then some false
 else M126_L1 F a1 k2 tl1 (n4+1)
def M126(F:Nat)(a1:(List UInt8)):Option Bool:=
 jn (if (!(a1==([]:List UInt8)))=true then some (decide ((a1.length:Int)<=100))
 else some false) (fun k2=>if (a1.length:Int)<=9223372036854775807 then M126_L1 F a1 k2 (((a1.length:Int):Int).toNat) 0 else none)
def M125(F:Nat)(a1:(List UInt8))(a2:(List UInt8))(a3:Bool):Option Int:=
 (M126 F a1).bind fun y4=>jn (some 0) (fun k6=>if (!y4)=true then some 8
 else if (!a3)=true then if (Op.bytesLess a1 a2||a1==a2)=true then some 10
 else k6
 else k6)
def M89_L2(F:Nat)(k18:Option Int):List (List UInt8)->Int->(List UInt8)->Option Int
  |[],n22,s21=>k18
  |x24::tl2,n22,s21=>(M125 F x24 s21 (n22==0)).bind fun y26=>if (y26 != 0)=true then some y26
 else M89_L2 F k18 tl2 (n22+1) x24
def M89_L1(F:Nat)(k3:Option Int):List TIface->Int->(List UInt8)->Option Int
  |[],n7,s6=>k3
  |x11::tl1,n7,s6=>jn (fun(s10:List UInt8)=>M89_L1 F k3 tl1 (n7+1) s10) (fun k9=>(M125 F x11.Name s6 (n7==0)).bind fun y13=>if (y13 != 0)=true then some y13
 else if (((x11.Methods.length:Nat):Int)==0)=true then some 13
 else if (decide (((x11.Methods.length:Nat):Int)>200))=true then some 3
 else jn (k9 x11.Name) (fun k18=>M89_L2 F k18 x11.Methods 0 ([]:List UInt8)))
def M89(F:Nat)(a1:Treach_checker)(a2:(List TIface)):Option Int:=
 jn (some 0) (fun k3=>M89_L1 F k3 a2 0 ([]:List UInt8))
def M90_L2(F:Nat)(a1:Treach_checker)(k17:Option Int):List TMethod->Int->(List UInt8)->Option Int
  |[],n21,s20=>k17
  |x25::tl2,n21,s20=>jn (fun(s24:List UInt8)=>M90_L2 F a1 k17 tl2 (n21+1) s24) (fun k23=>(M125 F x25.Name s20 (n21==0)).bind fun y27=>if (y27 != 0)=true then some y27
 else if (!a1.loose)=true then if (!((mget a1.funcs x25.Func).getD false))=true then some 4
 else k23 x25.Name
 else k23 x25.Name)
def M90_L1(F:Nat)(a1:Treach_checker)(k3:Option Int):List TType->Int->(List UInt8)->Option Int
  |[],n7,s6=>k3
  |x11::tl1,n7,s6=>jn (fun(s10:List UInt8)=>M90_L1 F a1 k3 tl1 (n7+1) s10) (fun k9=>(M125 F x11.Name s6 (n7==0)).bind fun y13=>if (y13 != 0)=true then some y13
 else if (decide (((x11.Methods.length:Nat):Int)>200))=true then some 3
 else jn (k9 x11.Name) (fun k17=>M90_L2 F a1 k17 x11.Methods 0 ([]:List UInt8)))
def M90(F:Nat)(a1:Treach_checker)(a2:(List TType)):Option Int:=
 jn (some 0) (fun k3=>M90_L1 F a1 k3 a2 0 ([]:List UInt8))
def M185_L1(F:Nat)(a2:(List UInt8))(k3:Option Int):List (List UInt8)->Int->Option Int
  |[],n5=>k3
  |x7::tl1,n5=>if (a2==x7)=true then some n5
 else M185_L1 F a2 k3 tl1 (n5+1)
def M185(F:Nat)(a1:(List (List UInt8)))(a2:(List UInt8)):Option Int:=
 jn (some (-1)) (fun k3=>M185_L1 F a2 k3 a1 0)
def M169(F:Nat)(a1:(List (List UInt8)))(a2:(List UInt8)):Option Bool:=
 (M185 F a1 a2).bind fun y3=>some (decide (y3>=0))
def M127(F:Nat)(a1:Treach_checker)(a2:TCall):Option Int:=
 jn (if (!(a2.Feature==([]:List UInt8)))=true then (M126 F a2.Feature).bind fun y16=>if (!y16)=true then some 8
 else some 0
 else some 0) (fun k3=>if (a2.Kind==1)=true then if (!a1.loose)=true then if (!((mget a1.funcs a2.Target).getD false))=true then some 4
 else if (!(a2.Method==([]:List UInt8)))=true then some 2
 else k3
 else if (!(a2.Method==([]:List UInt8)))=true then some 2
 else k3
 else if (a2.Kind==2)=true then if (!a1.loose)=true then if (!((mget a1.ifaces a2.Target).isSome))=true then some 4
 else (M169 F ((mget a1.ifaces a2.Target).getD (TIface.mk ([]:List UInt8) ([]:(List (List UInt8))))).Methods a2.Method).bind fun y12=>if (!y12)=true then some 4
 else k3
 else k3
 else some 7)
def M92_L1(F:Nat)(a1:Treach_checker)(a2:(List (List UInt8)))(a3:(List ((List UInt8)×Bool)))(k4:Option Int):List (List UInt8)->Int->Option Int
  |[],n6=>k4
  |x8::tl1,n6=>jn (M92_L1 F a1 a2 a3 k4 tl1 (n6+1)) (fun k10=>if (!a1.loose)=true then jn (k10) (fun k12=>if (!((mget a3 x8).getD false))=true then some 4
 else if (decide (n6>0))=true then (idx a2 (w64 (n6 - 1))).bind fun x15=>if (Op.bytesLess x8 x15||x8==x15)=true then some 10
 else k12
 else k12)
 else if (decide (n6>0))=true then (idx a2 (w64 (n6 - 1))).bind fun x19=>if (Op.bytesLess x8 x19||x8==x19)=true then some 10
 else k10
 else k10)
def M92(F:Nat)(a1:Treach_checker)(a2:(List (List UInt8)))(a3:(List ((List UInt8)×Bool))):Option Int:=
 jn (some 0) (fun k4=>M92_L1 F a1 a2 a3 k4 a2 0)
def M91_L2(F:Nat)(a1:Treach_checker)(k20:Option Int):List TCall->Option Int
  |[]=>k20
  |x24::tl2=>(M127 F a1 x24).bind fun y26=>if (y26 != 0)=true then some y26
 else M91_L2 F a1 k20 tl2
def M91_L1(F:Nat)(a1:Treach_checker)(k3:Option Int):List TFunc->Int->(List UInt8)->Option Int
  |[],n7,s6=>k3
  |x11::tl1,n7,s6=>jn (fun(s10:List UInt8)=>M91_L1 F a1 k3 tl1 (n7+1) s10) (fun k9=>(M125 F x11.Name s6 (n7==0)).bind fun y13=>if (y13 != 0)=true then some y13
 else (M126 F x11.Component).bind fun y16=>if (!y16)=true then some 8
 else if (decide (((x11.Calls.length:Nat):Int)>200))=true then some 3
 else jn ((M92 F a1 x11.Makes a1.types).bind fun y30=>if (y30 != 0)=true then some y30
 else k9 x11.Name) (fun k20=>M91_L2 F a1 k20 x11.Calls))
def M91(F:Nat)(a1:Treach_checker)(a2:(List TFunc)):Option Int:=
 jn (some 0) (fun k3=>M91_L1 F a1 k3 a2 0 ([]:List UInt8))
def M61(F:Nat)(a1:Treach_checker)(a2:TGraph):Option Int:=
 if (decide (((a2.Ifaces.length:Nat):Int)>200))=true then some 3
 else if (decide (((a2.Types.length:Nat):Int)>500))=true then some 3
 else if (decide (((a2.Funcs.length:Nat):Int)>3000))=true then some 3
 else (M89 F a1 a2.Ifaces).bind fun y6=>if (y6 != 0)=true then some y6
 else (M90 F a1 a2.Types).bind fun y9=>if (y9 != 0)=true then some y9
 else (M91 F a1 a2.Funcs).bind fun y12=>if (y12 != 0)=true then some y12
 else (M92 F a1 a2.Entries a1.funcs).bind fun y15=>some y15
def M15(F:Nat)(a1:TGraph):Option Int:=
 (M60 F a1 false).bind fun y2=>(M61 F y2 a1).bind fun y4=>some y4
def M71(F:Nat)(a1:Int):Option Unit:=if 0<=a1/\a1<=281474976710656 then some () else none
def M32(F:Nat)(a1:(List UInt8))(a2:List UInt8):Option Unit:=if a2.length+a1.length<=140737488355328 then some () else none
def M36(F:Nat)(a1:List UInt8):Option Unit:=some ()
def M33_L2(F:Nat)(a2:(List UInt8))(k30:(List UInt8)->Option (List UInt8)):List (List UInt8)->(List UInt8)->Option (List UInt8)
 |[],s35=>k30 s35
 |x37::tl2,s35=>(M32 F a2 s35).bind fun y39=>(M32 F x37 (s35++a2)).bind fun y41=>M33_L2 F a2 k30 tl2 ((s35++a2)++x37)
def M33_L1(F:Nat)(k12:Int->Option (List UInt8)):List (List UInt8)->Int->Option (List UInt8)
  |[],n16=>k12 n16
  |x19::tl1,n16=>if (decide ((x19.length:Int)>(w64 (9223372036854775807 - n16))))=true then none
 else M33_L1 F k12 tl1 (w64 (n16+(x19.length:Int)))
def M33(F:Nat)(a1:(List (List UInt8)))(a2:(List UInt8)):Option (List UInt8):=
 if (((a1.length:Nat):Int)==0)=true then some ([]:List UInt8)
 else if (((a1.length:Nat):Int)==1)=true then (idx a1 0).bind fun x5=>some x5
 else jn (fun(n8:Int)=>jn (fun(n13:Int)=>(M71 F n13).bind fun y23=>(idx a1 0).bind fun x25=>(M32 F x25 ([]:List UInt8)).bind fun y27=>if 1<=a1.length then jn (fun(s31:List UInt8)=>(M36 F s31).bind fun y44=>some s31) (fun k30=>M33_L2 F a2 k30 (a1.drop 1) (([]:List UInt8)++x25)) else none) (fun k12=>M33_L1 F k12 a1 n8)) (fun k7=>if (decide ((a2.length:Int)>0))=true then if (w64 (((a1.length:Nat):Int) - 1))≠0 then if (decide ((a2.length:Int)>=(w64 (Int.tdiv 9223372036854775807 (w64 (((a1.length:Nat):Int) - 1))))))=true then none
 else k7 (w64 (0+(w64 ((a2.length:Int)*(w64 (((a1.length:Nat):Int) - 1)))))) else none
 else k7 0)
def M34(F:Nat)(a1:TCall):Option (List UInt8):=
 if ([99,97,108,108,32]:List UInt8).length+a1.Target.length<=9223372036854775807 then jn (fun(s4:List UInt8)=>jn (fun(s10:List UInt8)=>if s10.length+([10]:List UInt8).length<=9223372036854775807 then some (s10++([10]:List UInt8)) else none) (fun k9=>if (!(a1.Feature==([]:List UInt8)))=true then if ([32,105,102,32]:List UInt8).length+a1.Feature.length<=9223372036854775807 then if s4.length+(([32,105,102,32]:List UInt8)++a1.Feature).length<=9223372036854775807 then k9 (s4++(([32,105,102,32]:List UInt8)++a1.Feature)) else none else none
 else k9 s4)) (fun k3=>if (a1.Kind==2)=true then if ([100,105,115,112,97,116,99,104,32]:List UInt8).length+a1.Target.length<=9223372036854775807 then if (([100,105,115,112,97,116,99,104,32]:List UInt8)++a1.Target).length+([32]:List UInt8).length<=9223372036854775807 then if ((([100,105,115,112,97,116,99,104,32]:List UInt8)++a1.Target)++([32]:List UInt8)).length+a1.Method.length<=9223372036854775807 then k3 (((([100,105,115,112,97,116,99,104,32]:List UInt8)++a1.Target)++([32]:List UInt8))++a1.Method) else none else none else none
 else k3 (([99,97,108,108,32]:List UInt8)++a1.Target)) else none
def M35(F:Nat)(a1:List UInt8):Option Unit:=some ()
def M9_L7(F:Nat)(k101:(List UInt8)->Option ((List UInt8)×Int)):List (List UInt8)->(List UInt8)->Option ((List UInt8)×Int)
 |[],s106=>k101 s106
 |x108::tl7,s106=>if ([101,110,116,114,121,32]:List UInt8).length+x108.length<=9223372036854775807 then if (([101,110,116,114,121,32]:List UInt8)++x108).length+([10]:List UInt8).length<=9223372036854775807 then (M32 F ((([101,110,116,114,121,32]:List UInt8)++x108)++([10]:List UInt8)) s106).bind fun y112=>M9_L7 F k101 tl7 (s106++((([101,110,116,114,121,32]:List UInt8)++x108)++([10]:List UInt8))) else none else none
def M9_L6(F:Nat)(k86:(List UInt8)->Option ((List UInt8)×Int)):List (List UInt8)->(List UInt8)->Option ((List UInt8)×Int)
 |[],s91=>k86 s91
 |x93::tl6,s91=>if ([109,97,107,101,115,32]:List UInt8).length+x93.length<=9223372036854775807 then if (([109,97,107,101,115,32]:List UInt8)++x93).length+([10]:List UInt8).length<=9223372036854775807 then (M32 F ((([109,97,107,101,115,32]:List UInt8)++x93)++([10]:List UInt8)) s91).bind fun y97=>M9_L6 F k86 tl6 (s91++((([109,97,107,101,115,32]:List UInt8)++x93)++([10]:List UInt8))) else none else none
def M9_L5(F:Nat)(k72:(List UInt8)->Option ((List UInt8)×Int)):List TCall->(List UInt8)->Option ((List UInt8)×Int)
 |[],s77=>k72 s77
 |x79::tl5,s77=>(M34 F x79).bind fun y81=>(M32 F y81 s77).bind fun y83=>M9_L5 F k72 tl5 (s77++y81)
def M9_L4(F:Nat)(k55:(List UInt8)->Option ((List UInt8)×Int)):List TFunc->(List UInt8)->Option ((List UInt8)×Int)
 |[],s60=>k55 s60
 |x64::tl4,s60=>jn (fun(s63:List UInt8)=>M9_L4 F k55 tl4 s63) (fun k62=>if ([102,117,110,99,32]:List UInt8).length+x64.Name.length<=9223372036854775807 then if (([102,117,110,99,32]:List UInt8)++x64.Name).length+([32]:List UInt8).length<=9223372036854775807 then if ((([102,117,110,99,32]:List UInt8)++x64.Name)++([32]:List UInt8)).length+x64.Component.length<=9223372036854775807 then if (((([102,117,110,99,32]:List UInt8)++x64.Name)++([32]:List UInt8))++x64.Component).length+([10]:List UInt8).length<=9223372036854775807 then (M32 F ((((([102,117,110,99,32]:List UInt8)++x64.Name)++([32]:List UInt8))++x64.Component)++([10]:List UInt8)) s60).bind fun y70=>jn (fun(s73:List UInt8)=>jn (fun(s87:List UInt8)=>k62 s87) (fun k86=>M9_L6 F k86 x64.Makes s73)) (fun k72=>M9_L5 F k72 x64.Calls (s60++((((([102,117,110,99,32]:List UInt8)++x64.Name)++([32]:List UInt8))++x64.Component)++([10]:List UInt8)))) else none else none else none else none)
def M9_L3(F:Nat)(k38:(List UInt8)->Option ((List UInt8)×Int)):List TMethod->(List UInt8)->Option ((List UInt8)×Int)
 |[],s43=>k38 s43
 |x45::tl3,s43=>if ([109,101,116,104,111,100,32]:List UInt8).length+x45.Name.length<=9223372036854775807 then if (([109,101,116,104,111,100,32]:List UInt8)++x45.Name).length+([32]:List UInt8).length<=9223372036854775807 then if ((([109,101,116,104,111,100,32]:List UInt8)++x45.Name)++([32]:List UInt8)).length+x45.Func.length<=9223372036854775807 then if (((([109,101,116,104,111,100,32]:List UInt8)++x45.Name)++([32]:List UInt8))++x45.Func).length+([10]:List UInt8).length<=9223372036854775807 then (M32 F ((((([109,101,116,104,111,100,32]:List UInt8)++x45.Name)++([32]:List UInt8))++x45.Func)++([10]:List UInt8)) s43).bind fun y51=>M9_L3 F k38 tl3 (s43++((((([109,101,116,104,111,100,32]:List UInt8)++x45.Name)++([32]:List UInt8))++x45.Func)++([10]:List UInt8))) else none else none else none else none
def M9_L2(F:Nat)(k23:(List UInt8)->Option ((List UInt8)×Int)):List TType->(List UInt8)->Option ((List UInt8)×Int)
 |[],s28=>k23 s28
 |x32::tl2,s28=>jn (fun(s31:List UInt8)=>M9_L2 F k23 tl2 s31) (fun k30=>if ([116,121,112,101,32]:List UInt8).length+x32.Name.length<=9223372036854775807 then if (([116,121,112,101,32]:List UInt8)++x32.Name).length+([10]:List UInt8).length<=9223372036854775807 then (M32 F ((([116,121,112,101,32]:List UInt8)++x32.Name)++([10]:List UInt8)) s28).bind fun y36=>jn (fun(s39:List UInt8)=>k30 s39) (fun k38=>M9_L3 F k38 x32.Methods (s28++((([116,121,112,101,32]:List UInt8)++x32.Name)++([10]:List UInt8)))) else none else none)
def M9_L1(F:Nat)(k5:(List UInt8)->Option ((List UInt8)×Int)):List TIface->(List UInt8)->Option ((List UInt8)×Int)
 |[],s10=>k5 s10
 |x12::tl1,s10=>if ([105,102,97,99,101,32]:List UInt8).length+x12.Name.length<=9223372036854775807 then if (([105,102,97,99,101,32]:List UInt8)++x12.Name).length+([32]:List UInt8).length<=9223372036854775807 then (M33 F x12.Methods ([32]:List UInt8)).bind fun y16=>if ((([105,102,97,99,101,32]:List UInt8)++x12.Name)++([32]:List UInt8)).length+y16.length<=9223372036854775807 then if (((([105,102,97,99,101,32]:List UInt8)++x12.Name)++([32]:List UInt8))++y16).length+([10]:List UInt8).length<=9223372036854775807 then (M32 F ((((([105,102,97,99,101,32]:List UInt8)++x12.Name)++([32]:List UInt8))++y16)++([10]:List UInt8)) s10).bind fun y20=>M9_L1 F k5 tl1 (s10++((((([105,102,97,99,101,32]:List UInt8)++x12.Name)++([32]:List UInt8))++y16)++([10]:List UInt8))) else none else none else none else none
def M9(F:Nat)(a1:TGraph):Option ((List UInt8)×Int):=
 (M15 F a1).bind fun y2=>if (y2 != 0)=true then some (([]:List UInt8),y2)
 else jn (fun(s6:List UInt8)=>jn (fun(s24:List UInt8)=>jn (fun(s56:List UInt8)=>jn (fun(s102:List UInt8)=>(M35 F s102).bind fun y115=>if (decide (((s102.length:Nat):Int)>1000000))=true then some (([]:List UInt8),3)
 else (M36 F s102).bind fun y118=>some (s102,0)) (fun k101=>M9_L7 F k101 a1.Entries s56)) (fun k55=>M9_L4 F k55 a1.Funcs s24)) (fun k23=>M9_L2 F k23 a1.Types s6)) (fun k5=>M9_L1 F k5 a1.Ifaces ([]:List UInt8))
def M65_L4(F:Nat)(k35:(List ((List UInt8)×Bool))->Option Tprovenderref6_names):List TFunc->(List ((List UInt8)×Bool))->Option Tprovenderref6_names
 |[],m40=>k35 m40
 |x42::tl4,m40=>M65_L4 F k35 tl4 (mput m40 x42.Name true)
def M65_L3(F:Nat)(k25:(List ((List UInt8)×Bool))->Option Tprovenderref6_names):List TType->(List ((List UInt8)×Bool))->Option Tprovenderref6_names
 |[],m30=>k25 m30
 |x32::tl3,m30=>M65_L3 F k25 tl3 (mput m30 x32.Name true)
def M65_L2(F:Nat)(x11:TIface)(k13:(List ((List UInt8)×(List ((List UInt8)×Bool))))->Option Tprovenderref6_names):List (List UInt8)->(List ((List UInt8)×(List ((List UInt8)×Bool))))->Option Tprovenderref6_names
 |[],m18=>k13 m18
 |x20::tl2,m18=>if (mget m18 x11.Name).isSome=true then M65_L2 F x11 k13 tl2 (mput m18 x11.Name (mput ((mget m18 x11.Name).getD []) x20 true)) else none
def M65_L1(F:Nat)(k2:(List ((List UInt8)×(List ((List UInt8)×Bool))))->Option Tprovenderref6_names):List TIface->(List ((List UInt8)×(List ((List UInt8)×Bool))))->Option Tprovenderref6_names
 |[],m7=>k2 m7
 |x11::tl1,m7=>jn (fun(m10:List ((List UInt8)×(List ((List UInt8)×Bool))))=>M65_L1 F k2 tl1 m10) (fun k9=>jn (fun(m14:List ((List UInt8)×(List ((List UInt8)×Bool))))=>k9 m14) (fun k13=>M65_L2 F x11 k13 x11.Methods (mput m7 x11.Name ([]:List ((List UInt8)×Bool)))))
def M65(F:Nat)(a1:TGraph):Option Tprovenderref6_names:=
 jn (fun(m3:List ((List UInt8)×(List ((List UInt8)×Bool))))=>jn (fun(m26:List ((List UInt8)×Bool))=>jn (fun(m36:List ((List UInt8)×Bool))=>some (Tprovenderref6_names.mk m3 m26 m36)) (fun k35=>M65_L4 F k35 a1.Funcs ([]:List ((List UInt8)×Bool)))) (fun k25=>M65_L3 F k25 a1.Types ([]:List ((List UInt8)×Bool)))) (fun k2=>M65_L1 F k2 a1.Ifaces ([]:List ((List UInt8)×(List ((List UInt8)×Bool)))))
def M132_L1(F:Nat)(a1:(List UInt8))(k2:Option Bool):Nat->Int->Option Bool
  |0,n4=>k2
  |tl1+1,n4=>(idx a1 n4).bind fun c6=>if (decide ((c6.toNat:Int)<33))=true then some false
 else (idx a1 n4).bind fun c9=>if (decide ((c9.toNat:Int)>126))=true then some false
 else (idx a1 n4).bind fun c12=>if ((c12.toNat:Int)==35)=true then some false
 else M132_L1 F a1 k2 tl1 (n4+1)
def M132(F:Nat)(a1:(List UInt8)):Option Bool:=
 jn (if (decide ((a1.length:Int)>=1))=true then some (decide ((a1.length:Int)<=100))
 else some false) (fun k2=>if (a1.length:Int)<=9223372036854775807 then M132_L1 F a1 k2 (((a1.length:Int):Int).toNat) 0 else none)
def M98(F:Nat)(a1:(List (List UInt8)))(a2:Int):Option Int:=
 if (decide (a2>0))=true then (idx a1 a2).bind fun x4=>(idx a1 (w64 (a2 - 1))).bind fun x6=>if (Op.bytesLess x4 x6||x4==x6)=true then some 10
 else some 0
 else some 0
def M95_L2(F:Nat)(x10:TIface)(k18:Option Int):List (List UInt8)->Int->Option Int
  |[],n20=>k18
  |x22::tl2,n20=>(M132 F x22).bind fun y24=>if (!y24)=true then some 8
 else (M98 F x10.Methods n20).bind fun y27=>if (y27 != 0)=true then some y27
 else M95_L2 F x10 k18 tl2 (n20+1)
def M95_L1(F:Nat)(k2:Option Int):List TIface->(List UInt8)->Option Int
  |[],s5=>k2
  |x10::tl1,s5=>jn (fun(s9:List UInt8)=>M95_L1 F k2 tl1 s9) (fun k8=>(M132 F x10.Name).bind fun y12=>if (!y12)=true then some 8
 else if (Op.bytesLess x10.Name s5||x10.Name==s5)=true then some 10
 else if (((x10.Methods.length:Nat):Int)==0)=true then some 13
 else if (decide (((x10.Methods.length:Nat):Int)>200))=true then some 3
 else jn (k8 x10.Name) (fun k18=>M95_L2 F x10 k18 x10.Methods 0))
def M95(F:Nat)(a1:Tprovenderref6_checker):Option Int:=
 jn (some 0) (fun k2=>M95_L1 F k2 a1.g.Ifaces ([]:List UInt8))
def M96_L2(F:Nat)(a1:Tprovenderref6_checker)(k17:Option Int):List TMethod->(List UInt8)->Option Int
  |[],s20=>k17
  |x23::tl2,s20=>(M132 F x23.Name).bind fun y25=>jn (M96_L2 F a1 k17 tl2 x23.Name) (fun k27=>if (!y25)=true then some 8
 else if (Op.bytesLess x23.Name s20||x23.Name==s20)=true then some 10
 else if (!a1.loose)=true then if (!((mget a1.n.funcs x23.Func).getD false))=true then some 4
 else k27
 else k27)
def M96_L1(F:Nat)(a1:Tprovenderref6_checker)(k2:Option Int):List TType->(List UInt8)->Option Int
  |[],s5=>k2
  |x10::tl1,s5=>jn (fun(s9:List UInt8)=>M96_L1 F a1 k2 tl1 s9) (fun k8=>(M132 F x10.Name).bind fun y12=>if (!y12)=true then some 8
 else if (Op.bytesLess x10.Name s5||x10.Name==s5)=true then some 10
 else if (decide (((x10.Methods.length:Nat):Int)>200))=true then some 3
 else jn (k8 x10.Name) (fun k17=>M96_L2 F a1 k17 x10.Methods ([]:List UInt8)))
def M96(F:Nat)(a1:Tprovenderref6_checker):Option Int:=
 jn (some 0) (fun k2=>M96_L1 F a1 k2 a1.g.Types ([]:List UInt8))
def M133(F:Nat)(a1:Tprovenderref6_checker)(a2:TCall):Option Int:=
 jn (if (!(a2.Feature==([]:List UInt8)))=true then (M132 F a2.Feature).bind fun y15=>if (!y15)=true then some 8
 else some 0
 else some 0) (fun k3=>if (a2.Kind==1)=true then if (!a1.loose)=true then if (!((mget a1.n.funcs a2.Target).getD false))=true then some 4
 else if (!(a2.Method==([]:List UInt8)))=true then some 2
 else k3
 else if (!(a2.Method==([]:List UInt8)))=true then some 2
 else k3
 else if (a2.Kind==2)=true then if ((mget a1.n.ifaces a2.Target).isSome)=true then if (!a1.loose)=true then if (!((mget ((mget a1.n.ifaces a2.Target).getD []) a2.Method).getD false))=true then some 4
 else k3
 else k3
 else if (!a1.loose)=true then some 4
 else k3
 else some 7)
def M97_L3(F:Nat)(a1:Tprovenderref6_checker)(x10:TFunc)(k30:Option Int):List (List UInt8)->Int->Option Int
  |[],n32=>k30
  |x35::tl3,n32=>jn (M97_L3 F a1 x10 k30 tl3 (n32+1)) (fun k34=>if (!a1.loose)=true then if (!((mget a1.n.types x35).getD false))=true then some 4
 else (M98 F x10.Makes n32).bind fun y39=>if (y39 != 0)=true then some y39
 else k34
 else (M98 F x10.Makes n32).bind fun y42=>if (y42 != 0)=true then some y42
 else k34)
def M97_L2(F:Nat)(a1:Tprovenderref6_checker)(k20:Option Int):List TCall->Option Int
  |[]=>k20
  |x24::tl2=>(M133 F a1 x24).bind fun y26=>if (y26 != 0)=true then some y26
 else M97_L2 F a1 k20 tl2
def M97_L1(F:Nat)(a1:Tprovenderref6_checker)(k2:Option Int):List TFunc->(List UInt8)->Option Int
  |[],s5=>k2
  |x10::tl1,s5=>jn (fun(s9:List UInt8)=>M97_L1 F a1 k2 tl1 s9) (fun k8=>(M132 F x10.Name).bind fun y12=>if (!y12)=true then some 8
 else if (Op.bytesLess x10.Name s5||x10.Name==s5)=true then some 10
 else (M132 F x10.Component).bind fun y16=>if (!y16)=true then some 8
 else if (decide (((x10.Calls.length:Nat):Int)>200))=true then some 3
 else jn (jn (k8 x10.Name) (fun k30=>M97_L3 F a1 x10 k30 x10.Makes 0)) (fun k20=>M97_L2 F a1 k20 x10.Calls))
def M97(F:Nat)(a1:Tprovenderref6_checker):Option Int:=
 jn (some 0) (fun k2=>M97_L1 F a1 k2 a1.g.Funcs ([]:List UInt8))
def M66_L1(F:Nat)(a1:Tprovenderref6_checker)(k14:Option Int):List (List UInt8)->Int->Option Int
  |[],n16=>k14
  |x19::tl1,n16=>jn (M66_L1 F a1 k14 tl1 (n16+1)) (fun k18=>if (!a1.loose)=true then if (!((mget a1.n.funcs x19).getD false))=true then some 4
 else (M98 F a1.g.Entries n16).bind fun y23=>if (y23 != 0)=true then some y23
 else k18
 else (M98 F a1.g.Entries n16).bind fun y26=>if (y26 != 0)=true then some y26
 else k18)
def M66(F:Nat)(a1:Tprovenderref6_checker):Option Int:=
 if (decide (((a1.g.Ifaces.length:Nat):Int)>200))=true then some 3
 else if (decide (((a1.g.Types.length:Nat):Int)>500))=true then some 3
 else if (decide (((a1.g.Funcs.length:Nat):Int)>3000))=true then some 3
 else (M95 F a1).bind fun y5=>if (y5 != 0)=true then some y5
 else (M96 F a1).bind fun y8=>if (y8 != 0)=true then some y8
 else (M97 F a1).bind fun y11=>if (y11 != 0)=true then some y11
 else jn (some 0) (fun k14=>M66_L1 F a1 k14 a1.g.Entries 0)
def M22(F:Nat)(a1:TGraph):Option Int:=
 (M65 F a1).bind fun y2=>(M66 F (Tprovenderref6_checker.mk a1 y2 false)).bind fun y4=>some y4
def M37(F:Nat)(a1:(List (List UInt8)))(a2:List Int):Option (List Int):=
 (M33 F a1 ([32]:List UInt8)).bind fun y8=>if (a2++(y8.map fun c=>(c.toNat:Int))).length*1<=140737488355328 then if ((a2++(y8.map fun c=>(c.toNat:Int)))++([10]:List Int)).length*1<=140737488355328 then some ((a2++(y8.map fun c=>(c.toNat:Int)))++([10]:List Int)) else none else none
def M10_L7(F:Nat)(k89:(List Int)->Option ((List UInt8)×Int)):List (List UInt8)->(List Int)->Option ((List UInt8)×Int)
 |[],l94=>k89 l94
 |x96::tl7,l94=>(M37 F ([([101,110,116,114,121]:List UInt8),x96]:List (List UInt8)) l94).bind fun y98=>M10_L7 F k89 tl7 y98
def M10_L6(F:Nat)(k76:(List Int)->Option ((List UInt8)×Int)):List (List UInt8)->(List Int)->Option ((List UInt8)×Int)
 |[],l81=>k76 l81
 |x83::tl6,l81=>(M37 F ([([109,97,107,101,115]:List UInt8),x83]:List (List UInt8)) l81).bind fun y85=>M10_L6 F k76 tl6 y85
def M10_L5(F:Nat)(k57:(List Int)->Option ((List UInt8)×Int)):List TCall->(List Int)->Option ((List UInt8)×Int)
  |[],l62=>k57 l62
  |x64::tl5,l62=>jn (fun(l67:List (List UInt8))=>jn (fun(l70:List (List UInt8))=>(M37 F l70 l62).bind fun y73=>M10_L5 F k57 tl5 y73) (fun k69=>if (!(x64.Feature==([]:List UInt8)))=true then if (l67++([([105,102]:List UInt8),x64.Feature]:List (List UInt8))).length*16<=140737488355328 then k69 (l67++([([105,102]:List UInt8),x64.Feature]:List (List UInt8))) else none
 else k69 l67)) (fun k66=>if (x64.Kind==2)=true then k66 ([([100,105,115,112,97,116,99,104]:List UInt8),x64.Target,x64.Method]:List (List UInt8))
 else k66 ([([99,97,108,108]:List UInt8),x64.Target]:List (List UInt8)))
def M10_L4(F:Nat)(k44:(List Int)->Option ((List UInt8)×Int)):List TFunc->(List Int)->Option ((List UInt8)×Int)
 |[],l49=>k44 l49
 |x53::tl4,l49=>jn (fun(l52:List Int)=>M10_L4 F k44 tl4 l52) (fun k51=>(M37 F ([([102,117,110,99]:List UInt8),x53.Name,x53.Component]:List (List UInt8)) l49).bind fun y55=>jn (fun(l58:List Int)=>jn (fun(l77:List Int)=>k51 l77) (fun k76=>M10_L6 F k76 x53.Makes l58)) (fun k57=>M10_L5 F k57 x53.Calls y55))
def M10_L3(F:Nat)(k31:(List Int)->Option ((List UInt8)×Int)):List TMethod->(List Int)->Option ((List UInt8)×Int)
 |[],l36=>k31 l36
 |x38::tl3,l36=>(M37 F ([([109,101,116,104,111,100]:List UInt8),x38.Name,x38.Func]:List (List UInt8)) l36).bind fun y40=>M10_L3 F k31 tl3 y40
def M10_L2(F:Nat)(k18:(List Int)->Option ((List UInt8)×Int)):List TType->(List Int)->Option ((List UInt8)×Int)
 |[],l23=>k18 l23
 |x27::tl2,l23=>jn (fun(l26:List Int)=>M10_L2 F k18 tl2 l26) (fun k25=>(M37 F ([([116,121,112,101]:List UInt8),x27.Name]:List (List UInt8)) l23).bind fun y29=>jn (fun(l32:List Int)=>k25 l32) (fun k31=>M10_L3 F k31 x27.Methods y29))
def M10_L1(F:Nat)(k5:(List Int)->Option ((List UInt8)×Int)):List TIface->(List Int)->Option ((List UInt8)×Int)
 |[],l10=>k5 l10
 |x12::tl1,l10=>if (([([105,102,97,99,101]:List UInt8),x12.Name]:List (List UInt8))++x12.Methods).length*16<=140737488355328 then (M37 F (([([105,102,97,99,101]:List UInt8),x12.Name]:List (List UInt8))++x12.Methods) l10).bind fun y15=>M10_L1 F k5 tl1 y15 else none
def M10(F:Nat)(a1:TGraph):Option ((List UInt8)×Int):=
 (M22 F a1).bind fun y2=>if (y2 != 0)=true then some (([]:List UInt8),y2)
 else jn (fun(l6:List Int)=>jn (fun(l19:List Int)=>jn (fun(l45:List Int)=>jn (fun(l90:List Int)=>if (decide (((l90.length:Nat):Int)>1000000))=true then some (([]:List UInt8),3)
 else some ((l90.map fun n=>UInt8.ofNat n.toNat),0)) (fun k89=>M10_L7 F k89 a1.Entries l45)) (fun k44=>M10_L4 F k44 a1.Funcs l19)) (fun k18=>M10_L2 F k18 a1.Types l6)) (fun k5=>M10_L1 F k5 a1.Ifaces ([]:List Int))
def M8(F:Nat):Option Bool:=some true
def M11(F:Nat)(a1:(List UInt8))(a2:(List UInt8)):Option (List (List UInt8)):=if a1.length<4294967281/\1<=a2.length then some (Lib.split a1 a2) else none
def M16(F:Nat)(a1:(List UInt8))(a2:(List UInt8)):Option ((List UInt8)×(List UInt8)×Bool):=if a1.length<4294967281 then some (Lib.cut a1 a2) else none
def M12_L1(F:Nat)(k6:(List (List UInt8))->Option (List (List UInt8))):List (List UInt8)->(List (List UInt8))->Option (List (List UInt8))
  |[],l11=>k6 l11
  |x13::tl1,l11=>jn (fun(l16:List (List UInt8))=>M12_L1 F k6 tl1 l16) (fun k15=>if (!(x13==([]:List UInt8)))=true then if (l11++([x13]:List (List UInt8))).length*16<=140737488355328 then k15 (l11++([x13]:List (List UInt8))) else none
 else k15 l11)
def M12(F:Nat)(a1:(List UInt8)):Option (List (List UInt8)):=
 (M16 F a1 ([35]:List UInt8)).bind fun y2=>(M11 F (y2.1) ([32]:List UInt8)).bind fun y4=>jn (fun(l7:List (List UInt8))=>some l7) (fun k6=>M12_L1 F k6 y4 ([]:List (List UInt8)))
def M75(F:Nat)(a1:Int)(a2:Int)(a3:(List (List UInt8))):Option (TCall×Bool):=
 jn (fun(s5:List UInt8)=>(idx a3 0).bind fun x13=>jn (fun(s16:List UInt8)=>some ((TCall.mk a1 x13 s16 s5),true)) (fun k15=>if (decide (a2>1))=true then (idx a3 1).bind fun x18=>k15 x18
 else k15 ([]:List UInt8))) (fun k4=>if (((a3.length:Nat):Int)==a2)=true then k4 ([]:List UInt8)
 else if (((a3.length:Nat):Int)==(w64 (a2+2)))=true then (idx a3 a2).bind fun x8=>if (x8==([105,102]:List UInt8))=true then (idx a3 (w64 (a2+1))).bind fun x11=>k4 x11
 else some ((TCall.mk a1 ([]:List UInt8) ([]:List UInt8) ([]:List UInt8)),false)
 else some ((TCall.mk a1 ([]:List UInt8) ([]:List UInt8) ([]:List UInt8)),false))
def M39(F:Nat)(a1:(List (List UInt8)))(a2:Int)(a3:List TIface)(a4:List TType)(a5:List TFunc)(a6:List (List UInt8)):Option (Bool×(List TType)×(List TFunc)):=
 jn ((idx a5 (w64 (((a5.length:Nat):Int) - 1))).bind fun x66=>(idx a1 0).bind fun x68=>jn (fun(b71:Bool) (n72:Int) (s73:List UInt8) (s74:List UInt8) (s75:List UInt8)=>(idx a5 (w64 (((a5.length:Nat):Int) - 1))).bind fun x87=>if (x87.Calls++([(TCall.mk n72 s73 s74 s75)]:List TCall)).length*56<=140737488355328 then some (b71,a4,(a5.set ((w64 (((a5.length:Nat):Int) - 1)).toNat) ({ x87 with Calls:=(x87.Calls++([(TCall.mk n72 s73 s74 s75)]:List TCall)) }:TFunc))) else none) (fun k70=>if (x68==([109,97,107,101,115]:List UInt8))=true then if 1<=a1.length then if (x66.Makes++(a1.drop 1)).length*16<=140737488355328 then some ((((a1.length:Nat):Int)==2),a4,(a5.set ((w64 (((a5.length:Nat):Int) - 1)).toNat) ({ x66 with Makes:=(x66.Makes++(a1.drop 1)) }:TFunc))) else none else none
 else if (x68==([99,97,108,108]:List UInt8))=true then if 1<=a1.length then (M75 F 1 1 (a1.drop 1)).bind fun y81=>k70 (y81.2) ((y81.1).Kind) ((y81.1).Target) ((y81.1).Method) ((y81.1).Feature) else none
 else if (x68==([100,105,115,112,97,116,99,104]:List UInt8))=true then if 1<=a1.length then (M75 F 2 2 (a1.drop 1)).bind fun y85=>k70 (y85.2) ((y85.1).Kind) ((y85.1).Target) ((y85.1).Method) ((y85.1).Feature) else none
 else k70 false 0 ([]:List UInt8) ([]:List UInt8) ([]:List UInt8))) (fun k50=>(idx a1 0).bind fun x51=>if (x51==([109,101,116,104,111,100]:List UInt8))=true then if (a2==1)=true then if (((a1.length:Nat):Int)==3)=true then (idx a4 (w64 (((a4.length:Nat):Int) - 1))).bind fun x56=>(idx a1 1).bind fun x58=>(idx a1 2).bind fun x60=>if (x56.Methods++([(TMethod.mk x58 x60)]:List TMethod)).length*32<=140737488355328 then some (true,(a4.set ((w64 (((a4.length:Nat):Int) - 1)).toNat) ({ x56 with Methods:=(x56.Methods++([(TMethod.mk x58 x60)]:List TMethod)) }:TType)),a5) else none
 else if (a2 != 2)=true then some (false,a4,a5)
 else k50
 else if (a2 != 2)=true then some (false,a4,a5)
 else k50
 else if (a2 != 2)=true then some (false,a4,a5)
 else k50)
def M13(F:Nat)(a1:(List (List UInt8)))(a2:Int)(a3:List TIface)(a4:List TType)(a5:List TFunc)(a6:List (List UInt8)):Option (Bool×Int×(List TIface)×(List TType)×(List TFunc)×(List (List UInt8))):=
 (idx a1 0).bind fun x38=>if (x38==([105,102,97,99,101]:List UInt8))=true then if (decide (((a1.length:Nat):Int)<2))=true then some (false,a2,a3,a4,a5,a6)
 else (idx a1 1).bind fun x42=>if 2<=a1.length then if (a3++([(TIface.mk x42 (a1.drop 2))]:List TIface)).length*40<=140737488355328 then some (true,0,(a3++([(TIface.mk x42 (a1.drop 2))]:List TIface)),a4,a5,a6) else none else none
 else if (x38==([116,121,112,101]:List UInt8))=true then if (((a1.length:Nat):Int) != 2)=true then some (false,a2,a3,a4,a5,a6)
 else (idx a1 1).bind fun x48=>if (a4++[(TType.mk x48 ([]:List TMethod))]).length*40<=140737488355328 then some (true,1,a3,(a4++[(TType.mk x48 ([]:List TMethod))]),a5,a6) else none
 else if (x38==([102,117,110,99]:List UInt8))=true then if (((a1.length:Nat):Int) != 3)=true then some (false,a2,a3,a4,a5,a6)
 else (idx a1 1).bind fun x53=>(idx a1 2).bind fun x55=>if (a5++[(TFunc.mk x53 x55 ([]:List TCall) ([]:List (List UInt8)))]).length*80<=140737488355328 then some (true,2,a3,a4,(a5++[(TFunc.mk x53 x55 ([]:List TCall) ([]:List (List UInt8)))]),a6) else none
 else if (x38==([101,110,116,114,121]:List UInt8))=true then if 1<=a1.length then if (a6++(a1.drop 1)).length*16<=140737488355328 then some ((((a1.length:Nat):Int)==2),0,a3,a4,a5,(a6++(a1.drop 1))) else none else none
 else (M39 F a1 a2 a3 a4 a5 a6).bind fun y61=>some ((y61.1),a2,a3,(y61.2.1),(y61.2.2),a6)
def M77(F:Nat)(a1:(List UInt8)):Option Bool:=
 some (!(a1==a1))
def M42(F:Nat)(a1:(List UInt8))(a2:(List UInt8)):Option Int:=
 (M77 F a1).bind fun y3=>(M77 F a2).bind fun y5=>if y3=true then if y5=true then some 0
 else some (-1)
 else if y5=true then some 1
 else if (Op.bytesLess a1 a2)=true then some (-1)
 else if (!(Op.bytesLess a1 a2||a1==a2))=true then some 1
 else some 0
def M41(F:Nat)(a1:TMethod)(a2:TMethod):Option Int:=
 (M42 F a1.Name a2.Name).bind fun y3=>some y3
def M109_L2(F:Nat)(a1:Int)(k41:(List TMethod)->Option (List TMethod)):Nat->Int->(List TMethod)->Option (List TMethod)
 |0,_,_=>none
 |n+1,n45,l46=>if (decide (n45>a1))=true then (idx l46 n45).bind fun x48=>(idx l46 (w64 (n45 - 1))).bind fun x50=>(M41 F x48 x50).bind fun y52=>if (decide (y52<0))=true then (idx l46 (w64 (n45 - 1))).bind fun x55=>(idx l46 n45).bind fun x57=>(idx l46 n45).bind fun x59=>(idx (l46.set n45.toNat x55) (w64 (n45 - 1))).bind fun x61=>M109_L2 F a1 k41 n (w64 (n45 - 1)) ((l46.set n45.toNat x55).set (w64 (n45 - 1)).toNat x57)
 else k41 l46
 else k41 l46
def M109_L1(F:Nat)(a1:Int)(a2:Int):Nat->Int->(List TMethod)->Option (List TMethod)
 |0,_,_=>none
 |n+1,n36,l37=>if (decide (n36<a2))=true then jn (fun(l40:List TMethod)=>M109_L1 F a1 a2 n (w64 (n36+1)) l40) (fun k39=>jn (fun(l42:List TMethod)=>k39 l42) (fun k41=>M109_L2 F a1 k41 F n36 l37))
 else some l37
def M109(F:Nat)(a1:Int)(a2:Int)(a3:List TMethod):Option (List TMethod):=
 M109_L1 F a1 a2 F (w64 (a1+1)) a3
def M174_L1(F:Nat)(a1:Int)(a2:Int):Nat->Int->(List TMethod)->Option (List TMethod)
 |0,n22,l23=>some l23
 |tl1+1,n22,l23=>(idx l23 (w64 (a2+n22))).bind fun x25=>(idx l23 (w64 (a1+n22))).bind fun x27=>(idx l23 (w64 (a1+n22))).bind fun x29=>(idx (l23.set (w64 (a1+n22)).toNat x25) (w64 (a2+n22))).bind fun x31=>M174_L1 F a1 a2 tl1 (n22+1) ((l23.set (w64 (a1+n22)).toNat x25).set (w64 (a2+n22)).toNat x27)
def M174(F:Nat)(a1:Int)(a2:Int)(a3:Int)(a4:List TMethod):Option (List TMethod):=
 if a3<=9223372036854775807 then M174_L1 F a1 a2 ((a3:Int).toNat) 0 a4 else none
def M139_L1(F:Nat)(a2:Int)(k30:Int->(List TMethod)->Option (List TMethod)):Nat->Int->Int->(List TMethod)->Option (List TMethod)
 |0,_,_,_=>none
 |n+1,n36,n37,l38=>if (n36 != n37)=true then jn (fun(n41:Int) (n42:Int) (l43:List TMethod)=>M139_L1 F a2 k30 n n41 n42 l43) (fun k40=>if (decide (n36>n37))=true then (M174 F (w64 (a2 - n36)) a2 n37 l38).bind fun y45=>if y45.length=l38.length then k40 (w64 (n36 - n37)) n37 y45 else none
 else (M174 F (w64 (a2 - n36)) (w64 ((w64 (a2+n37)) - n36)) n36 l38).bind fun y48=>if y48.length=l38.length then k40 n36 (w64 (n37 - n36)) y48 else none)
 else k30 n36 l38
def M139(F:Nat)(a1:Int)(a2:Int)(a3:Int)(a4:List TMethod):Option (List TMethod):=
 jn (fun(n31:Int) (l32:List TMethod)=>(M174 F (w64 (a2 - n31)) a2 n31 l32).bind fun y51=>if y51.length=l32.length then some y51 else none) (fun k30=>M139_L1 F a2 k30 F (w64 (a2 - a1)) (w64 (a3 - a2)) a4)
def M110_L2(F:Nat)(n136:Int)(k152:(List TMethod)->Option (List TMethod)):Nat->Int->(List TMethod)->Option (List TMethod)
 |0,_,_=>none
 |n+1,n156,l157=>if (decide (n156<(w64 (n136 - 1))))=true then (idx l157 (w64 (n156+1))).bind fun x159=>(idx l157 n156).bind fun x161=>(idx l157 n156).bind fun x163=>(idx (l157.set n156.toNat x159) (w64 (n156+1))).bind fun x165=>M110_L2 F n136 k152 n (w64 (n156+1)) ((l157.set n156.toNat x159).set (w64 (n156+1)).toNat x161)
 else k152 l157
def M110_L1(F:Nat)(a1:Int)(a4:List TMethod)(k135:Int->Option (List TMethod)):Nat->Int->Int->Option (List TMethod)
 |0,_,_=>none
 |n+1,n139,n140=>if (decide (n139<n140))=true then (idx a4 (w64 (Int.fdiv (IntKind.wrap .u64 (w64 (n139+n140))) (2 ^ (min (Int.toNat 1) (IntKind.bits .u64)))))).bind fun x142=>(idx a4 a1).bind fun x144=>(M41 F x142 x144).bind fun y146=>jn (fun(n149:Int) (n150:Int)=>M110_L1 F a1 a4 k135 n n149 n150) (fun k148=>if (decide (y146<0))=true then k148 (w64 ((w64 (Int.fdiv (IntKind.wrap .u64 (w64 (n139+n140))) (2 ^ (min (Int.toNat 1) (IntKind.bits .u64)))))+1)) n140
 else k148 n139 (w64 (Int.fdiv (IntKind.wrap .u64 (w64 (n139+n140))) (2 ^ (min (Int.toNat 1) (IntKind.bits .u64))))))
 else k135 n139
def M110_L4(F:Nat)(n169:Int)(k185:(List TMethod)->Option (List TMethod)):Nat->Int->(List TMethod)->Option (List TMethod)
 |0,_,_=>none
 |n+1,n189,l190=>if (decide (n189>n169))=true then (idx l190 (w64 (n189 - 1))).bind fun x192=>(idx l190 n189).bind fun x194=>(idx l190 n189).bind fun x196=>(idx (l190.set n189.toNat x192) (w64 (n189 - 1))).bind fun x198=>M110_L4 F n169 k185 n (w64 (n189 - 1)) ((l190.set n189.toNat x192).set (w64 (n189 - 1)).toNat x194)
 else k185 l190
def M110_L3(F:Nat)(a2:Int)(a4:List TMethod)(k168:Int->Option (List TMethod)):Nat->Int->Int->Option (List TMethod)
 |0,_,_=>none
 |n+1,n172,n173=>if (decide (n172<n173))=true then (idx a4 a2).bind fun x175=>(idx a4 (w64 (Int.fdiv (IntKind.wrap .u64 (w64 (n172+n173))) (2 ^ (min (Int.toNat 1) (IntKind.bits .u64)))))).bind fun x177=>(M41 F x175 x177).bind fun y179=>jn (fun(n182:Int) (n183:Int)=>M110_L3 F a2 a4 k168 n n182 n183) (fun k181=>if (!(decide (y179<0)))=true then k181 (w64 ((w64 (Int.fdiv (IntKind.wrap .u64 (w64 (n172+n173))) (2 ^ (min (Int.toNat 1) (IntKind.bits .u64)))))+1)) n173
 else k181 n172 (w64 (Int.fdiv (IntKind.wrap .u64 (w64 (n172+n173))) (2 ^ (min (Int.toNat 1) (IntKind.bits .u64))))))
 else k168 n172
def M110_L5(F:Nat)(a1:Int)(a2:Int)(a3:Int)(a4:List TMethod)(k204:Int->Option (List TMethod)):Nat->Int->Int->Option (List TMethod)
 |0,_,_=>none
 |n+1,n208,n209=>if (decide (n208<n209))=true then (idx a4 (w64 ((w64 ((w64 ((w64 (Int.fdiv (IntKind.wrap .u64 (w64 (a1+a3))) (2 ^ (min (Int.toNat 1) (IntKind.bits .u64)))))+a2)) - 1)) - (w64 (Int.fdiv (IntKind.wrap .u64 (w64 (n208+n209))) (2 ^ (min (Int.toNat 1) (IntKind.bits .u64)))))))).bind fun x211=>(idx a4 (w64 (Int.fdiv (IntKind.wrap .u64 (w64 (n208+n209))) (2 ^ (min (Int.toNat 1) (IntKind.bits .u64)))))).bind fun x213=>(M41 F x211 x213).bind fun y215=>jn (fun(n218:Int) (n219:Int)=>M110_L5 F a1 a2 a3 a4 k204 n n218 n219) (fun k217=>if (!(decide (y215<0)))=true then k217 (w64 ((w64 (Int.fdiv (IntKind.wrap .u64 (w64 (n208+n209))) (2 ^ (min (Int.toNat 1) (IntKind.bits .u64)))))+1)) n209
 else k217 n208 (w64 (Int.fdiv (IntKind.wrap .u64 (w64 (n208+n209))) (2 ^ (min (Int.toNat 1) (IntKind.bits .u64))))))
 else k204 n208
def M110_B(R110:Int->Int->Int->(List TMethod)->Option (List TMethod))(F:Nat)(a1:Int)(a2:Int)(a3:Int)(a4:List TMethod):Option (List TMethod):=
 if ((w64 (a2 - a1))==1)=true then jn (fun(n136:Int)=>jn (fun(l153:List TMethod)=>some l153) (fun k152=>M110_L2 F n136 k152 F a1 a4)) (fun k135=>M110_L1 F a1 a4 k135 F a2 a3)
 else if ((w64 (a3 - a2))==1)=true then jn (fun(n169:Int)=>jn (fun(l186:List TMethod)=>some l186) (fun k185=>M110_L4 F n169 k185 F a2 a4)) (fun k168=>M110_L3 F a2 a4 k168 F a1 a2)
 else jn (fun(n201:Int) (n202:Int)=>jn (fun(n205:Int)=>if (decide (n205<a2))=true then jn (fun(l223:List TMethod)=>if (decide (a1<n205))=true then jn (fun(l230:List TMethod)=>if (decide ((w64 (Int.fdiv (IntKind.wrap .u64 (w64 (a1+a3))) (2 ^ (min (Int.toNat 1) (IntKind.bits .u64)))))<(w64 ((w64 ((w64 (Int.fdiv (IntKind.wrap .u64 (w64 (a1+a3))) (2 ^ (min (Int.toNat 1) (IntKind.bits .u64)))))+a2)) - n205))))=true then if (decide ((w64 ((w64 ((w64 (Int.fdiv (IntKind.wrap .u64 (w64 (a1+a3))) (2 ^ (min (Int.toNat 1) (IntKind.bits .u64)))))+a2)) - n205))<a3))=true then (R110 (w64 (Int.fdiv (IntKind.wrap .u64 (w64 (a1+a3))) (2 ^ (min (Int.toNat 1) (IntKind.bits .u64))))) (w64 ((w64 ((w64 (Int.fdiv (IntKind.wrap .u64 (w64 (a1+a3))) (2 ^ (min (Int.toNat 1) (IntKind.bits .u64)))))+a2)) - n205)) a3 l230).bind fun y237=>if y237.length=l230.length then some y237 else none
 else some l230
 else some l230) (fun k229=>if (decide (n205<(w64 (Int.fdiv (IntKind.wrap .u64 (w64 (a1+a3))) (2 ^ (min (Int.toNat 1) (IntKind.bits .u64)))))))=true then (R110 a1 n205 (w64 (Int.fdiv (IntKind.wrap .u64 (w64 (a1+a3))) (2 ^ (min (Int.toNat 1) (IntKind.bits .u64))))) l223).bind fun y232=>if y232.length=l223.length then k229 y232 else none
 else k229 l223)
 else if (decide ((w64 (Int.fdiv (IntKind.wrap .u64 (w64 (a1+a3))) (2 ^ (min (Int.toNat 1) (IntKind.bits .u64)))))<(w64 ((w64 ((w64 (Int.fdiv (IntKind.wrap .u64 (w64 (a1+a3))) (2 ^ (min (Int.toNat 1) (IntKind.bits .u64)))))+a2)) - n205))))=true then if (decide ((w64 ((w64 ((w64 (Int.fdiv (IntKind.wrap .u64 (w64 (a1+a3))) (2 ^ (min (Int.toNat 1) (IntKind.bits .u64)))))+a2)) - n205))<a3))=true then (R110 (w64 (Int.fdiv (IntKind.wrap .u64 (w64 (a1+a3))) (2 ^ (min (Int.toNat 1) (IntKind.bits .u64))))) (w64 ((w64 ((w64 (Int.fdiv (IntKind.wrap .u64 (w64 (a1+a3))) (2 ^ (min (Int.toNat 1) (IntKind.bits .u64)))))+a2)) - n205)) a3 l223).bind fun y242=>if y242.length=l223.length then some y242 else none
 else some l223
 else some l223) (fun k222=>if (decide (a2<(w64 ((w64 ((w64 (Int.fdiv (IntKind.wrap .u64 (w64 (a1+a3))) (2 ^ (min (Int.toNat 1) (IntKind.bits .u64)))))+a2)) - n205))))=true then (M139 F n205 a2 (w64 ((w64 ((w64 (Int.fdiv (IntKind.wrap .u64 (w64 (a1+a3))) (2 ^ (min (Int.toNat 1) (IntKind.bits .u64)))))+a2)) - n205)) a4).bind fun y225=>if y225.length=a4.length then k222 y225 else none
 else k222 a4)
 else if (decide (a1<n205))=true then jn (fun(l247:List TMethod)=>if (decide ((w64 (Int.fdiv (IntKind.wrap .u64 (w64 (a1+a3))) (2 ^ (min (Int.toNat 1) (IntKind.bits .u64)))))<(w64 ((w64 ((w64 (Int.fdiv (IntKind.wrap .u64 (w64 (a1+a3))) (2 ^ (min (Int.toNat 1) (IntKind.bits .u64)))))+a2)) - n205))))=true then if (decide ((w64 ((w64 ((w64 (Int.fdiv (IntKind.wrap .u64 (w64 (a1+a3))) (2 ^ (min (Int.toNat 1) (IntKind.bits .u64)))))+a2)) - n205))<a3))=true then (R110 (w64 (Int.fdiv (IntKind.wrap .u64 (w64 (a1+a3))) (2 ^ (min (Int.toNat 1) (IntKind.bits .u64))))) (w64 ((w64 ((w64 (Int.fdiv (IntKind.wrap .u64 (w64 (a1+a3))) (2 ^ (min (Int.toNat 1) (IntKind.bits .u64)))))+a2)) - n205)) a3 l247).bind fun y254=>if y254.length=l247.length then some y254 else none
 else some l247
 else some l247) (fun k246=>if (decide (n205<(w64 (Int.fdiv (IntKind.wrap .u64 (w64 (a1+a3))) (2 ^ (min (Int.toNat 1) (IntKind.bits .u64)))))))=true then (R110 a1 n205 (w64 (Int.fdiv (IntKind.wrap .u64 (w64 (a1+a3))) (2 ^ (min (Int.toNat 1) (IntKind.bits .u64))))) a4).bind fun y249=>if y249.length=a4.length then k246 y249 else none
 else k246 a4)
 else if (decide ((w64 (Int.fdiv (IntKind.wrap .u64 (w64 (a1+a3))) (2 ^ (min (Int.toNat 1) (IntKind.bits .u64)))))<(w64 ((w64 ((w64 (Int.fdiv (IntKind.wrap .u64 (w64 (a1+a3))) (2 ^ (min (Int.toNat 1) (IntKind.bits .u64)))))+a2)) - n205))))=true then if (decide ((w64 ((w64 ((w64 (Int.fdiv (IntKind.wrap .u64 (w64 (a1+a3))) (2 ^ (min (Int.toNat 1) (IntKind.bits .u64)))))+a2)) - n205))<a3))=true then (R110 (w64 (Int.fdiv (IntKind.wrap .u64 (w64 (a1+a3))) (2 ^ (min (Int.toNat 1) (IntKind.bits .u64))))) (w64 ((w64 ((w64 (Int.fdiv (IntKind.wrap .u64 (w64 (a1+a3))) (2 ^ (min (Int.toNat 1) (IntKind.bits .u64)))))+a2)) - n205)) a3 a4).bind fun y259=>if y259.length=a4.length then some y259 else none
 else some a4
 else some a4) (fun k204=>M110_L5 F a1 a2 a3 a4 k204 F n201 n202)) (fun k200=>if (decide (a2>(w64 (Int.fdiv (IntKind.wrap .u64 (w64 (a1+a3))) (2 ^ (min (Int.toNat 1) (IntKind.bits .u64)))))))=true then k200 (w64 ((w64 ((w64 (Int.fdiv (IntKind.wrap .u64 (w64 (a1+a3))) (2 ^ (min (Int.toNat 1) (IntKind.bits .u64)))))+a2)) - a3)) (w64 (Int.fdiv (IntKind.wrap .u64 (w64 (a1+a3))) (2 ^ (min (Int.toNat 1) (IntKind.bits .u64)))))
 else k200 a1 a2)
def M110:Nat->Int->Int->Int->(List TMethod)->Option (List TMethod)
 |0,_,_,_,_=>none
 |F+1,a1,a2,a3,a4=>M110_B (M110 F) F a1 a2 a3 a4
def M76_L3(F:Nat)(a1:Int)(n64:Int)(k69:Int->(List TMethod)->Option (List TMethod)):Nat->Int->Int->(List TMethod)->Option (List TMethod)
 |0,_,_,_=>none
 |n+1,n75,n76,l77=>if (decide (n76<=a1))=true then (M110 F n75 (w64 (n75+n64)) n76 l77).bind fun y79=>if y79.length=l77.length then M76_L3 F a1 n64 k69 n n76 (w64 (n76+(w64 (2*n64)))) y79 else none
 else k69 n75 l77
def M76_L2(F:Nat)(a1:Int):Nat->Int->(List TMethod)->Option (List TMethod)
 |0,_,_=>none
 |n+1,n64,l65=>if (decide (n64<a1))=true then jn (fun(l68:List TMethod)=>M76_L2 F a1 n (w64 (n64*2)) l68) (fun k67=>jn (fun(n70:Int) (l71:List TMethod)=>jn (fun(l83:List TMethod)=>k67 l83) (fun k82=>if (decide ((w64 (n70+n64))<a1))=true then (M110 F n70 (w64 (n70+n64)) a1 l71).bind fun y85=>if y85.length=l71.length then k82 y85 else none
 else k82 l71)) (fun k69=>M76_L3 F a1 n64 k69 F 0 (w64 (2*n64)) l65))
 else some l65
def M76_L1(F:Nat)(a1:Int)(k46:Int->(List TMethod)->Option (List TMethod)):Nat->Int->Int->(List TMethod)->Option (List TMethod)
 |0,_,_,_=>none
 |n+1,n52,n53,l54=>if (decide (n53<=a1))=true then (M109 F n52 n53 l54).bind fun y56=>if y56.length=l54.length then M76_L1 F a1 k46 n n53 (w64 (n53+20)) y56 else none
 else k46 n52 l54
def M76(F:Nat)(a1:Int)(a2:List TMethod):Option (List TMethod):=
 jn (fun(n47:Int) (l48:List TMethod)=>(M109 F n47 a1 l48).bind fun y59=>if y59.length=l48.length then M76_L2 F a1 F 20 y59 else none) (fun k46=>M76_L1 F a1 k46 F 0 20 a2)
def M40(F:Nat)(a1:List TMethod):Option (List TMethod):=
 (M76 F ((a1.length:Nat):Int) a1).bind fun y6=>if y6.length=a1.length then some y6 else none
def M44(F:Nat)(a1:TMethod):Option (List UInt8):=
 some (a1.Name)
def M43_L1(F:Nat)(a1:(List TMethod))(k2:Option Bool):Nat->Int->Option Bool
 |0,_=>none
 |n+1,n4=>if (decide (n4<((a1.length:Nat):Int)))=true then (idx a1 n4).bind fun x6=>(M44 F x6).bind fun y8=>(idx a1 (w64 (n4 - 1))).bind fun x10=>(M44 F x10).bind fun y12=>if (y8==y12)=true then some true
 else M43_L1 F a1 k2 n (w64 (n4+1))
 else k2
def M43(F:Nat)(a1:(List TMethod)):Option Bool:=
 jn (some false) (fun k2=>M43_L1 F a1 k2 F 1)
def M45(F:Nat)(a1:List (List UInt8)):Option (List (List UInt8)):=if a1.length<4611686018427387904 then some (tsort a1) else none
def M47(F:Nat)(a1:(List UInt8)):Option (List UInt8):=
 some a1
def M46_L1(F:Nat)(a1:(List (List UInt8)))(k2:Option Bool):Nat->Int->Option Bool
 |0,_=>none
 |n+1,n4=>if (decide (n4<((a1.length:Nat):Int)))=true then (idx a1 n4).bind fun x6=>(M47 F x6).bind fun y8=>(idx a1 (w64 (n4 - 1))).bind fun x10=>(M47 F x10).bind fun y12=>if (y8==y12)=true then some true
 else M46_L1 F a1 k2 n (w64 (n4+1))
 else k2
def M46(F:Nat)(a1:(List (List UInt8))):Option Bool:=
 jn (some false) (fun k2=>M46_L1 F a1 k2 F 1)
def M82(F:Nat)(a1:(List (List UInt8))):Option (List (List UInt8)):=
 nilq a1.length (fun b2=>if b2=true then some ([]:List (List UInt8))
 else if (([]:List (List UInt8))++a1).length*16<=140737488355328 then some (([]:List (List UInt8))++a1) else none)
def M50(F:Nat)(a1:TIface):Option TIface:=
 (M82 F a1.Methods).bind fun y2=>some (TIface.mk a1.Name y2)
def M49(F:Nat)(a1:TIface):Option (List UInt8):=
 some (a1.Name)
def M81(F:Nat)(a1:TIface)(a2:TIface):Option Int:=
 (M49 F a1).bind fun y3=>(M49 F a2).bind fun y5=>(M42 F y3 y5).bind fun y7=>some y7
def M80(F:Nat)(a1:List TIface):Option (List TIface):=srtQ (fun x3 y4=>M81 F x3 y4) a1
def M48_L1(F:Nat)(k2:(List TIface)->Option (List TIface)):List TIface->(List TIface)->Option (List TIface)
 |[],l7=>k2 l7
 |x9::tl1,l7=>(M50 F x9).bind fun y11=>if (l7++([y11]:List TIface)).length*40<=140737488355328 then M48_L1 F k2 tl1 (l7++([y11]:List TIface)) else none
def M48(F:Nat)(a1:(List TIface)):Option (List TIface):=
 jn (fun(l3:List TIface)=>(M80 F l3).bind fun y15=>if y15.length=l3.length then some y15 else none) (fun k2=>M48_L1 F k2 a1 ([]:List TIface))
def M85(F:Nat)(a1:(List TMethod)):Option (List TMethod):=
 nilq a1.length (fun b2=>if b2=true then some ([]:List TMethod)
 else if (([]:List TMethod)++a1).length*32<=140737488355328 then some (([]:List TMethod)++a1) else none)
def M53(F:Nat)(a1:TType):Option TType:=
 (M85 F a1.Methods).bind fun y2=>some (TType.mk a1.Name y2)
def M52(F:Nat)(a1:TType):Option (List UInt8):=
 some (a1.Name)
def M84(F:Nat)(a1:TType)(a2:TType):Option Int:=
 (M52 F a1).bind fun y3=>(M52 F a2).bind fun y5=>(M42 F y3 y5).bind fun y7=>some y7
def M83(F:Nat)(a1:List TType):Option (List TType):=srtQ (fun x3 y4=>M84 F x3 y4) a1
def M51_L1(F:Nat)(k2:(List TType)->Option (List TType)):List TType->(List TType)->Option (List TType)
 |[],l7=>k2 l7
 |x9::tl1,l7=>(M53 F x9).bind fun y11=>if (l7++([y11]:List TType)).length*40<=140737488355328 then M51_L1 F k2 tl1 (l7++([y11]:List TType)) else none
def M51(F:Nat)(a1:(List TType)):Option (List TType):=
 jn (fun(l3:List TType)=>(M83 F l3).bind fun y15=>if y15.length=l3.length then some y15 else none) (fun k2=>M51_L1 F k2 a1 ([]:List TType))
def M88(F:Nat)(a1:(List TCall)):Option (List TCall):=
 nilq a1.length (fun b2=>if b2=true then some ([]:List TCall)
 else if (([]:List TCall)++a1).length*56<=140737488355328 then some (([]:List TCall)++a1) else none)
def M56(F:Nat)(a1:TFunc):Option TFunc:=
 (M88 F a1.Calls).bind fun y2=>(M82 F a1.Makes).bind fun y4=>some (TFunc.mk a1.Name a1.Component y2 y4)
def M55(F:Nat)(a1:TFunc):Option (List UInt8):=
 some (a1.Name)
def M87(F:Nat)(a1:TFunc)(a2:TFunc):Option Int:=
 (M55 F a1).bind fun y3=>(M55 F a2).bind fun y5=>(M42 F y3 y5).bind fun y7=>some y7
def M86(F:Nat)(a1:List TFunc):Option (List TFunc):=srtQ (fun x3 y4=>M87 F x3 y4) a1
def M54_L1(F:Nat)(k2:(List TFunc)->Option (List TFunc)):List TFunc->(List TFunc)->Option (List TFunc)
 |[],l7=>k2 l7
 |x9::tl1,l7=>(M56 F x9).bind fun y11=>if (l7++([y11]:List TFunc)).length*80<=140737488355328 then M54_L1 F k2 tl1 (l7++([y11]:List TFunc)) else none
def M54(F:Nat)(a1:(List TFunc)):Option (List TFunc):=
 jn (fun(l3:List TFunc)=>(M86 F l3).bind fun y15=>if y15.length=l3.length then some y15 else none) (fun k2=>M54_L1 F k2 a1 ([]:List TFunc))
def M57_L1(F:Nat)(a1:(List TIface))(k2:Option Bool):Nat->Int->Option Bool
 |0,_=>none
 |n+1,n4=>if (decide (n4<((a1.length:Nat):Int)))=true then (idx a1 n4).bind fun x6=>(M49 F x6).bind fun y8=>(idx a1 (w64 (n4 - 1))).bind fun x10=>(M49 F x10).bind fun y12=>if (y8==y12)=true then some true
 else M57_L1 F a1 k2 n (w64 (n4+1))
 else k2
def M57(F:Nat)(a1:(List TIface)):Option Bool:=
 jn (some false) (fun k2=>M57_L1 F a1 k2 F 1)
def M58_L1(F:Nat)(a1:(List TType))(k2:Option Bool):Nat->Int->Option Bool
 |0,_=>none
 |n+1,n4=>if (decide (n4<((a1.length:Nat):Int)))=true then (idx a1 n4).bind fun x6=>(M52 F x6).bind fun y8=>(idx a1 (w64 (n4 - 1))).bind fun x10=>(M52 F x10).bind fun y12=>if (y8==y12)=true then some true
 else M58_L1 F a1 k2 n (w64 (n4+1))
 else k2
def M58(F:Nat)(a1:(List TType)):Option Bool:=
 jn (some false) (fun k2=>M58_L1 F a1 k2 F 1)
def M59_L1(F:Nat)(a1:(List TFunc))(k2:Option Bool):Nat->Int->Option Bool
 |0,_=>none
 |n+1,n4=>if (decide (n4<((a1.length:Nat):Int)))=true then (idx a1 n4).bind fun x6=>(M55 F x6).bind fun y8=>(idx a1 (w64 (n4 - 1))).bind fun x10=>(M55 F x10).bind fun y12=>if (y8==y12)=true then some true
 else M59_L1 F a1 k2 n (w64 (n4+1))
 else k2
def M59(F:Nat)(a1:(List TFunc)):Option Bool:=
 jn (some false) (fun k2=>M59_L1 F a1 k2 F 1)
def M14_L2(F:Nat)(k106:Bool->(List TFunc)->Option (Bool×(List TIface)×(List TType)×(List TFunc)×(List (List UInt8)))):Nat->Int->Bool->(List TFunc)->Option (Bool×(List TIface)×(List TType)×(List TFunc)×(List (List UInt8)))
  |0,n113,b112,l114=>k106 b112 l114
  |tl2+1,n113,b112,l114=>jn (fun(b117:Bool) (l118:List TFunc)=>M14_L2 F k106 tl2 (n113+1) b117 l118) (fun k116=>(idx l114 n113).bind fun x119=>(M45 F x119.Makes).bind fun y121=>if y121.length=x119.Makes.length then if b112=true then if x119.Makes.length=y121.length then k116 true (l114.set (n113.toNat) ({ x119 with Makes:=y121 }:TFunc)) else none
 else if x119.Makes.length=y121.length then (idx (l114.set (n113.toNat) ({ x119 with Makes:=y121 }:TFunc)) n113).bind fun x127=>(M46 F x127.Makes).bind fun y129=>k116 y129 (l114.set (n113.toNat) ({ x119 with Makes:=y121 }:TFunc)) else none else none)
def M14_L1(F:Nat)(k82:Bool->(List TType)->Option (Bool×(List TIface)×(List TType)×(List TFunc)×(List (List UInt8)))):Nat->Int->Bool->(List TType)->Option (Bool×(List TIface)×(List TType)×(List TFunc)×(List (List UInt8)))
  |0,n89,b88,l90=>k82 b88 l90
  |tl1+1,n89,b88,l90=>jn (fun(b93:Bool) (l94:List TType)=>M14_L1 F k82 tl1 (n89+1) b93 l94) (fun k92=>(idx l90 n89).bind fun x95=>(M40 F x95.Methods).bind fun y97=>if y97.length=x95.Methods.length then if b88=true then if x95.Methods.length=y97.length then k92 true (l90.set (n89.toNat) ({ x95 with Methods:=y97 }:TType)) else none
 else (M43 F y97).bind fun y102=>if x95.Methods.length=y97.length then k92 y102 (l90.set (n89.toNat) ({ x95 with Methods:=y97 }:TType)) else none else none)
def M14(F:Nat)(a1:Int)(a2:List TIface)(a3:List TType)(a4:List TFunc)(a5:List (List UInt8)):Option (Bool×(List TIface)×(List TType)×(List TFunc)×(List (List UInt8))):=
 jn (fun(b83:Bool) (l84:List TType)=>jn (fun(b107:Bool) (l108:List TFunc)=>(M48 F a2).bind fun y132=>(M51 F l84).bind fun y134=>(M54 F l108).bind fun y136=>(M45 F a5).bind fun y138=>if y138.length=a5.length then if (!b107)=true then (M57 F y132).bind fun y142=>if (!y142)=true then (M58 F y134).bind fun y145=>if (!y145)=true then (M59 F y136).bind fun y148=>if (!y148)=true then (M46 F y138).bind fun y151=>some ((!y151),y132,y134,y136,y138)
 else some (false,y132,y134,y136,y138)
 else some (false,y132,y134,y136,y138)
 else some (false,y132,y134,y136,y138)
 else some (false,y132,y134,y136,y138) else none) (fun k106=>M14_L2 F k106 ((((a4.length:Nat):Int):Int).toNat) 0 b83 a4)) (fun k82=>M14_L1 F k82 ((((a3.length:Nat):Int):Int).toNat) 0 false a3)
def M5_L1(F:Nat)(k5:Int->(List TIface)->(List TType)->(List TFunc)->(List (List UInt8))->Option (TGraph×Int×Int)):List (List UInt8)->Int->Int->(List TIface)->(List TType)->(List TFunc)->(List (List UInt8))->Option (TGraph×Int×Int)
  |[],n17,n18,l19,l20,l21,l22=>k5 n18 l19 l20 l21 l22
  |x30::tl1,n17,n18,l19,l20,l21,l22=>jn (fun(n25:Int) (l26:List TIface) (l27:List TType) (l28:List TFunc) (l29:List (List UInt8))=>M5_L1 F k5 tl1 (n17+1) n25 l26 l27 l28 l29) (fun k24=>(M12 F x30).bind fun y32=>if (decide (((y32.length:Nat):Int)>0))=true then (M13 F y32 n18 l19 l20 l21 l22).bind fun y35=>if (!(y35.1))=true then some ((TGraph.mk ([]:List TIface) ([]:List TType) ([]:List TFunc) ([]:List (List UInt8))),n17,6)
 else k24 (y35.2.1) (y35.2.2.1) (y35.2.2.2.1) (y35.2.2.2.2.1) (y35.2.2.2.2.2)
 else k24 n18 l19 l20 l21 l22)
def M5(F:Nat)(a1:(List UInt8)):Option (TGraph×Int×Int):=
 if (decide ((a1.length:Int)>1000000))=true then some ((TGraph.mk ([]:List TIface) ([]:List TType) ([]:List TFunc) ([]:List (List UInt8))),0,3)
 else (M11 F a1 ([10]:List UInt8)).bind fun y3=>jn (fun(n6:Int) (l7:List TIface) (l8:List TType) (l9:List TFunc) (l10:List (List UInt8))=>(M14 F n6 l7 l8 l9 l10).bind fun y39=>if (!(y39.1))=true then some ((TGraph.mk ([]:List TIface) ([]:List TType) ([]:List TFunc) ([]:List (List UInt8))),0,5)
 else (M15 F (TGraph.mk (y39.2.1) (y39.2.2.1) (y39.2.2.2.1) (y39.2.2.2.2))).bind fun y42=>if (y42 != 0)=true then some ((TGraph.mk ([]:List TIface) ([]:List TType) ([]:List TFunc) ([]:List (List UInt8))),0,y42)
 else some ((TGraph.mk (y39.2.1) (y39.2.2.1) (y39.2.2.2.1) (y39.2.2.2.2)),0,0)) (fun k5=>M5_L1 F k5 y3 0 0 ([]:List TIface) ([]:List TType) ([]:List TFunc) ([]:List (List UInt8)))
def M24_L1(F:Nat)(a2:(List (List UInt8)))(k4:Option Bool):List (List UInt8)->Int->Option Bool
  |[],n6=>k4
  |x8::tl1,n6=>(idx a2 n6).bind fun x10=>if (!(x8==x10))=true then some false
 else M24_L1 F a2 k4 tl1 (n6+1)
def M24(F:Nat)(a1:(List (List UInt8)))(a2:(List (List UInt8))):Option Bool:=
 if (((a1.length:Nat):Int) != ((a2.length:Nat):Int))=true then some false
 else jn (some true) (fun k4=>M24_L1 F a2 k4 a1 0)
def M23(F:Nat)(a1:TIface)(a2:TIface):Option Bool:=
 if (a1.Name==a2.Name)=true then (M24 F a1.Methods a2.Methods).bind fun y4=>some y4
 else some false
def M27_L1(F:Nat)(a2:(List TIface))(k4:Option Bool):List TIface->Int->Option Bool
  |[],n6=>k4
  |x8::tl1,n6=>(idx a2 n6).bind fun x10=>(M23 F x8 x10).bind fun y12=>if (!y12)=true then some false
 else M27_L1 F a2 k4 tl1 (n6+1)
def M27(F:Nat)(a1:(List TIface))(a2:(List TIface)):Option Bool:=
 if (((a1.length:Nat):Int) != ((a2.length:Nat):Int))=true then some false
 else jn (some true) (fun k4=>M27_L1 F a2 k4 a1 0)
def M26_L1(F:Nat)(a2:(List TMethod))(k4:Option Bool):List TMethod->Int->Option Bool
  |[],n6=>k4
  |x8::tl1,n6=>(idx a2 n6).bind fun x10=>if (!(decide (x8=x10)))=true then some false
 else M26_L1 F a2 k4 tl1 (n6+1)
def M26(F:Nat)(a1:(List TMethod))(a2:(List TMethod)):Option Bool:=
 if (((a1.length:Nat):Int) != ((a2.length:Nat):Int))=true then some false
 else jn (some true) (fun k4=>M26_L1 F a2 k4 a1 0)
def M25(F:Nat)(a1:TType)(a2:TType):Option Bool:=
 if (a1.Name==a2.Name)=true then (M26 F a1.Methods a2.Methods).bind fun y4=>some y4
 else some false
def M28_L1(F:Nat)(a2:(List TType))(k4:Option Bool):List TType->Int->Option Bool
  |[],n6=>k4
  |x8::tl1,n6=>(idx a2 n6).bind fun x10=>(M25 F x8 x10).bind fun y12=>if (!y12)=true then some false
 else M28_L1 F a2 k4 tl1 (n6+1)
def M28(F:Nat)(a1:(List TType))(a2:(List TType)):Option Bool:=
 if (((a1.length:Nat):Int) != ((a2.length:Nat):Int))=true then some false
 else jn (some true) (fun k4=>M28_L1 F a2 k4 a1 0)
def M67_L1(F:Nat)(a2:(List TCall))(k4:Option Bool):List TCall->Int->Option Bool
  |[],n6=>k4
  |x8::tl1,n6=>(idx a2 n6).bind fun x10=>if (!(decide (x8=x10)))=true then some false
 else M67_L1 F a2 k4 tl1 (n6+1)
def M67(F:Nat)(a1:(List TCall))(a2:(List TCall)):Option Bool:=
 if (((a1.length:Nat):Int) != ((a2.length:Nat):Int))=true then some false
 else jn (some true) (fun k4=>M67_L1 F a2 k4 a1 0)
def M30(F:Nat)(a1:TFunc)(a2:TFunc):Option Bool:=
 if (a1.Name==a2.Name)=true then if (a1.Component==a2.Component)=true then (M67 F a1.Calls a2.Calls).bind fun y5=>if y5=true then (M24 F a1.Makes a2.Makes).bind fun y8=>some y8
 else some false
 else some false
 else some false
def M29_L1(F:Nat)(a2:(List TFunc))(k4:Option Bool):List TFunc->Int->Option Bool
  |[],n6=>k4
  |x8::tl1,n6=>(idx a2 n6).bind fun x10=>(M30 F x8 x10).bind fun y12=>if (!y12)=true then some false
 else M29_L1 F a2 k4 tl1 (n6+1)
def M29(F:Nat)(a1:(List TFunc))(a2:(List TFunc)):Option Bool:=
 if (((a1.length:Nat):Int) != ((a2.length:Nat):Int))=true then some false
 else jn (some true) (fun k4=>M29_L1 F a2 k4 a1 0)
def M7(F:Nat)(a1:TGraph)(a2:TGraph):Option Bool:=
 (M27 F a1.Ifaces a2.Ifaces).bind fun y3=>if y3=true then (M28 F a1.Types a2.Types).bind fun y6=>if y6=true then (M29 F a1.Funcs a2.Funcs).bind fun y9=>if y9=true then (M24 F a1.Entries a2.Entries).bind fun y12=>some y12
 else some false
 else some false
 else some false
def M4(F:Nat)(a1:TGraph):Option Bool:=
 (M9 F a1).bind fun y2=>(M10 F a1).bind fun y4=>if (!((y2.1)==(y4.1)))=true then some false
 else if ((y2.2) != (y4.2))=true then some false
 else if ((y2.2) != 0)=true then (M8 F).bind fun y9=>some y9
 else (M5 F (y2.1)).bind fun y11=>if ((y11.2.2)==0)=true then if ((y11.2.1)==0)=true then (M7 F a1 (y11.1)).bind fun y15=>if y15=true then (M8 F).bind fun y18=>some y18
 else some false
 else some false
 else some false
end
end Go.Proofs.YtjofofmllnpkpaaGreatDoor
namespace Go.Pv
open Go
theorem w64_id{n:Int}(h : -9223372036854775808<=n)(h':n<=9223372036854775807):w64 n=n:=by
 have:w64 n=if n % 18446744073709551616>=9223372036854775808 then n % 18446744073709551616 - 18446744073709551616 else n % 18446744073709551616:=by
  simp[w64,IntKind.wrap,IntKind.signed,IntKind.bits]
 rw[this]
 split<;>omega
theorem jn_def{α β:Type}(k:α)(b:α->β):jn k b=b k:=rfl
theorem idx_nat{α:Type}{xs:List α}{j:Nat}(h:j<xs.length):idx xs (j:Int)=some xs[j]:=by
 simp[idx,h]
theorem if_t{α:Type}{p:Prop}[Decidable p]{x y:α}(h:p):(if decide p=true then x else y)=x:=by simp[h]
theorem if_f{α:Type}{p:Prop}[Decidable p]{x y:α}(h:¬p):(if decide p=true then x else y)=y:=by simp[h]
theorem mid_nat{a b:Nat}(h:a+b<4611686018427387904):w64 (Int.fdiv (IntKind.wrap .u64 (w64 ((a:Int)+(b:Int)))) (2 ^ (min (Int.toNat 1) (IntKind.bits .u64))))=(((a+b) / 2:Nat):Int):=by
 rw[w64_id (n:=(a:Int)+b) (by omega) (by omega)]
 have:IntKind.wrap .u64 ((a:Int)+b)=((a+b:Nat):Int):=by
  simp only[IntKind.wrap,IntKind.signed,IntKind.bits,Bool.false_and]
  simp
  omega
 rw[this]
 have e:(2:Int) ^ (min (Int.toNat 1) (IntKind.bits .u64))=2:=by decide
 rw[e,Int.fdiv_eq_ediv_of_nonneg _ (by omega)]
 rw[w64_id (by omega) (by omega)]
 omega
theorem mget_mput{α β:Type}[DecidableEq α](xs:List (α×β))(k k':α)(v:β):mget (mput xs k v) k'=if k=k' then some v else mget xs k':=by
 induction xs with
 |nil=>simp[mput,mget]
 |cons p r ih=>
  simp only[mput]
  split
  ·rename_i h
   simp only[mget,h]
   split<;>simp_all
  ·rename_i h
   simp only[mget]
   by_cases h2:p.1=k'
   ·rw[if_pos h2,if_pos h2,if_neg (fun e=>h (h2.trans e.symm))]
   ·rw[if_neg h2,if_neg h2];exact ih
end Go.Pv
