/- Part of the proof: Y. -/
import Derived.Test.YtjofofmllnpkpaaGreatDoorSURD
namespace Go.Pv
open Go
set_option linter.unusedVariables false
def insG_L2{α:Type}(c:α->α->Option Int)(F:Nat)(a1:Int)(k41:(List α)->Option (List α)):Nat->Int->(List α)->Option (List α)
 |0,_,_=>none
 |n+1,n45,l46=>if (decide (n45>a1))=true then (idx l46 n45).bind fun x48=>(idx l46 (w64 (n45 - 1))).bind fun x50=>(c x48 x50).bind fun y52=>if (decide (y52<0))=true then (idx l46 (w64 (n45 - 1))).bind fun x55=>(idx l46 n45).bind fun x57=>(idx l46 n45).bind fun x59=>(idx (l46.set n45.toNat x55) (w64 (n45 - 1))).bind fun x61=>insG_L2 c F a1 k41 n (w64 (n45 - 1)) ((l46.set n45.toNat x55).set (w64 (n45 - 1)).toNat x57)
 else k41 l46
 else k41 l46
def insG_L1{α:Type}(c:α->α->Option Int)(F:Nat)(a1:Int)(a2:Int):Nat->Int->(List α)->Option (List α)
 |0,_,_=>none
 |n+1,n36,l37=>if (decide (n36<a2))=true then jn (fun(l40:List α)=>insG_L1 c F a1 a2 n (w64 (n36+1)) l40) (fun k39=>jn (fun(l42:List α)=>k39 l42) (fun k41=>insG_L2 c F a1 k41 F n36 l37))
 else some l37
def insG{α:Type}(c:α->α->Option Int)(F:Nat)(a1:Int)(a2:Int)(a3:List α):Option (List α):=
 insG_L1 c F a1 a2 F (w64 (a1+1)) a3
def swpG_L1{α:Type}(F:Nat)(a1:Int)(a2:Int):Nat->Int->(List α)->Option (List α)
 |0,n22,l23=>some l23
 |tl1+1,n22,l23=>(idx l23 (w64 (a2+n22))).bind fun x25=>(idx l23 (w64 (a1+n22))).bind fun x27=>(idx l23 (w64 (a1+n22))).bind fun x29=>(idx (l23.set (w64 (a1+n22)).toNat x25) (w64 (a2+n22))).bind fun x31=>swpG_L1 F a1 a2 tl1 (n22+1) ((l23.set (w64 (a1+n22)).toNat x25).set (w64 (a2+n22)).toNat x27)
def swpG{α:Type}(F:Nat)(a1:Int)(a2:Int)(a3:Int)(a4:List α):Option (List α):=
 if a3<=9223372036854775807 then swpG_L1 F a1 a2 ((a3).toNat) 0 a4 else none
def rotG_L1{α:Type}(F:Nat)(a2:Int)(k30:Int->(List α)->Option (List α)):Nat->Int->Int->(List α)->Option (List α)
 |0,_,_,_=>none
 |n+1,n36,n37,l38=>if (n36 != n37)=true then jn (fun(n41:Int) (n42:Int) (l43:List α)=>rotG_L1 F a2 k30 n n41 n42 l43) (fun k40=>if (decide (n36>n37))=true then (swpG F (w64 (a2 - n36)) a2 n37 l38).bind fun y45=>if y45.length=l38.length then k40 (w64 (n36 - n37)) n37 y45 else none
 else (swpG F (w64 (a2 - n36)) (w64 ((w64 (a2+n37)) - n36)) n36 l38).bind fun y48=>if y48.length=l38.length then k40 n36 (w64 (n37 - n36)) y48 else none)
 else k30 n36 l38
def rotG{α:Type}(F:Nat)(a1:Int)(a2:Int)(a3:Int)(a4:List α):Option (List α):=
 jn (fun(n31:Int) (l32:List α)=>(swpG F (w64 (a2 - n31)) a2 n31 l32).bind fun y51=>if y51.length=l32.length then some y51 else none) (fun k30=>rotG_L1 F a2 k30 F (w64 (a2 - a1)) (w64 (a3 - a2)) a4)
def symG_L2{α:Type}(F:Nat)(n114:Int)(k130:(List α)->Option (List α)):Nat->Int->(List α)->Option (List α)
 |0,_,_=>none
 |n+1,n134,l135=>if (decide (n134<(w64 (n114 - 1))))=true then (idx l135 (w64 (n134+1))).bind fun x137=>(idx l135 n134).bind fun x139=>(idx l135 n134).bind fun x141=>(idx (l135.set n134.toNat x137) (w64 (n134+1))).bind fun x143=>symG_L2 F n114 k130 n (w64 (n134+1)) ((l135.set n134.toNat x137).set (w64 (n134+1)).toNat x139)
 else k130 l135
def symG_L1{α:Type}(c:α->α->Option Int)(F:Nat)(a1:Int)(a4:List α)(k113:Int->Option (List α)):Nat->Int->Int->Option (List α)
 |0,_,_=>none
 |n+1,n117,n118=>if (decide (n117<n118))=true then (idx a4 (w64 (Int.fdiv (IntKind.wrap .u64 (w64 (n117+n118))) (2 ^ (min (Int.toNat 1) (IntKind.bits .u64)))))).bind fun x120=>(idx a4 a1).bind fun x122=>(c x120 x122).bind fun y124=>jn (fun(n127:Int) (n128:Int)=>symG_L1 c F a1 a4 k113 n n127 n128) (fun k126=>if (decide (y124<0))=true then k126 (w64 ((w64 (Int.fdiv (IntKind.wrap .u64 (w64 (n117+n118))) (2 ^ (min (Int.toNat 1) (IntKind.bits .u64)))))+1)) n118
 else k126 n117 (w64 (Int.fdiv (IntKind.wrap .u64 (w64 (n117+n118))) (2 ^ (min (Int.toNat 1) (IntKind.bits .u64))))))
 else k113 n117
def symG_L4{α:Type}(F:Nat)(n147:Int)(k163:(List α)->Option (List α)):Nat->Int->(List α)->Option (List α)
 |0,_,_=>none
 |n+1,n167,l168=>if (decide (n167>n147))=true then (idx l168 (w64 (n167 - 1))).bind fun x170=>(idx l168 n167).bind fun x172=>(idx l168 n167).bind fun x174=>(idx (l168.set n167.toNat x170) (w64 (n167 - 1))).bind fun x176=>symG_L4 F n147 k163 n (w64 (n167 - 1)) ((l168.set n167.toNat x170).set (w64 (n167 - 1)).toNat x172)
 else k163 l168
def symG_L3{α:Type}(c:α->α->Option Int)(F:Nat)(a2:Int)(a4:List α)(k146:Int->Option (List α)):Nat->Int->Int->Option (List α)
 |0,_,_=>none
 |n+1,n150,n151=>if (decide (n150<n151))=true then (idx a4 a2).bind fun x153=>(idx a4 (w64 (Int.fdiv (IntKind.wrap .u64 (w64 (n150+n151))) (2 ^ (min (Int.toNat 1) (IntKind.bits .u64)))))).bind fun x155=>(c x153 x155).bind fun y157=>jn (fun(n160:Int) (n161:Int)=>symG_L3 c F a2 a4 k146 n n160 n161) (fun k159=>if (!(decide (y157<0)))=true then k159 (w64 ((w64 (Int.fdiv (IntKind.wrap .u64 (w64 (n150+n151))) (2 ^ (min (Int.toNat 1) (IntKind.bits .u64)))))+1)) n151
 else k159 n150 (w64 (Int.fdiv (IntKind.wrap .u64 (w64 (n150+n151))) (2 ^ (min (Int.toNat 1) (IntKind.bits .u64))))))
 else k146 n150
def symG_L5{α:Type}(c:α->α->Option Int)(F:Nat)(a1:Int)(a2:Int)(a3:Int)(a4:List α)(k182:Int->Option (List α)):Nat->Int->Int->Option (List α)
 |0,_,_=>none
 |n+1,n186,n187=>if (decide (n186<n187))=true then (idx a4 (w64 ((w64 ((w64 ((w64 (Int.fdiv (IntKind.wrap .u64 (w64 (a1+a3))) (2 ^ (min (Int.toNat 1) (IntKind.bits .u64)))))+a2)) - 1)) - (w64 (Int.fdiv (IntKind.wrap .u64 (w64 (n186+n187))) (2 ^ (min (Int.toNat 1) (IntKind.bits .u64)))))))).bind fun x189=>(idx a4 (w64 (Int.fdiv (IntKind.wrap .u64 (w64 (n186+n187))) (2 ^ (min (Int.toNat 1) (IntKind.bits .u64)))))).bind fun x191=>(c x189 x191).bind fun y193=>jn (fun(n196:Int) (n197:Int)=>symG_L5 c F a1 a2 a3 a4 k182 n n196 n197) (fun k195=>if (!(decide (y193<0)))=true then k195 (w64 ((w64 (Int.fdiv (IntKind.wrap .u64 (w64 (n186+n187))) (2 ^ (min (Int.toNat 1) (IntKind.bits .u64)))))+1)) n187
 else k195 n186 (w64 (Int.fdiv (IntKind.wrap .u64 (w64 (n186+n187))) (2 ^ (min (Int.toNat 1) (IntKind.bits .u64))))))
 else k182 n186
def symG_B{α:Type}(c:α->α->Option Int)(R:Int->Int->Int->(List α)->Option (List α))(F:Nat)(a1:Int)(a2:Int)(a3:Int)(a4:List α):Option (List α):=
 if ((w64 (a2 - a1))==1)=true then jn (fun(n114:Int)=>jn (fun(l131:List α)=>some l131) (fun k130=>symG_L2 F n114 k130 F a1 a4)) (fun k113=>symG_L1 c F a1 a4 k113 F a2 a3)
 else if ((w64 (a3 - a2))==1)=true then jn (fun(n147:Int)=>jn (fun(l164:List α)=>some l164) (fun k163=>symG_L4 F n147 k163 F a2 a4)) (fun k146=>symG_L3 c F a2 a4 k146 F a1 a2)
 else jn (fun(n179:Int) (n180:Int)=>jn (fun(n183:Int)=>if (decide (n183<a2))=true then jn (fun(l201:List α)=>if (decide (a1<n183))=true then jn (fun(l208:List α)=>if (decide ((w64 (Int.fdiv (IntKind.wrap .u64 (w64 (a1+a3))) (2 ^ (min (Int.toNat 1) (IntKind.bits .u64)))))<(w64 ((w64 ((w64 (Int.fdiv (IntKind.wrap .u64 (w64 (a1+a3))) (2 ^ (min (Int.toNat 1) (IntKind.bits .u64)))))+a2)) - n183))))=true then if (decide ((w64 ((w64 ((w64 (Int.fdiv (IntKind.wrap .u64 (w64 (a1+a3))) (2 ^ (min (Int.toNat 1) (IntKind.bits .u64)))))+a2)) - n183))<a3))=true then (R (w64 (Int.fdiv (IntKind.wrap .u64 (w64 (a1+a3))) (2 ^ (min (Int.toNat 1) (IntKind.bits .u64))))) (w64 ((w64 ((w64 (Int.fdiv (IntKind.wrap .u64 (w64 (a1+a3))) (2 ^ (min (Int.toNat 1) (IntKind.bits .u64)))))+a2)) - n183)) a3 l208).bind fun y215=>if y215.length=l208.length then some y215 else none
 else some l208
 else some l208) (fun k207=>if (decide (n183<(w64 (Int.fdiv (IntKind.wrap .u64 (w64 (a1+a3))) (2 ^ (min (Int.toNat 1) (IntKind.bits .u64)))))))=true then (R a1 n183 (w64 (Int.fdiv (IntKind.wrap .u64 (w64 (a1+a3))) (2 ^ (min (Int.toNat 1) (IntKind.bits .u64))))) l201).bind fun y210=>if y210.length=l201.length then k207 y210 else none
 else k207 l201)
 else if (decide ((w64 (Int.fdiv (IntKind.wrap .u64 (w64 (a1+a3))) (2 ^ (min (Int.toNat 1) (IntKind.bits .u64)))))<(w64 ((w64 ((w64 (Int.fdiv (IntKind.wrap .u64 (w64 (a1+a3))) (2 ^ (min (Int.toNat 1) (IntKind.bits .u64)))))+a2)) - n183))))=true then if (decide ((w64 ((w64 ((w64 (Int.fdiv (IntKind.wrap .u64 (w64 (a1+a3))) (2 ^ (min (Int.toNat 1) (IntKind.bits .u64)))))+a2)) - n183))<a3))=true then (R (w64 (Int.fdiv (IntKind.wrap .u64 (w64 (a1+a3))) (2 ^ (min (Int.toNat 1) (IntKind.bits .u64))))) (w64 ((w64 ((w64 (Int.fdiv (IntKind.wrap .u64 (w64 (a1+a3))) (2 ^ (min (Int.toNat 1) (IntKind.bits .u64)))))+a2)) - n183)) a3 l201).bind fun y220=>if y220.length=l201.length then some y220 else none
 else some l201
 else some l201) (fun k200=>if (decide (a2<(w64 ((w64 ((w64 (Int.fdiv (IntKind.wrap .u64 (w64 (a1+a3))) (2 ^ (min (Int.toNat 1) (IntKind.bits .u64)))))+a2)) - n183))))=true then (rotG F n183 a2 (w64 ((w64 ((w64 (Int.fdiv (IntKind.wrap .u64 (w64 (a1+a3))) (2 ^ (min (Int.toNat 1) (IntKind.bits .u64)))))+a2)) - n183)) a4).bind fun y203=>if y203.length=a4.length then k200 y203 else none
 else k200 a4)
 else if (decide (a1<n183))=true then jn (fun(l225:List α)=>if (decide ((w64 (Int.fdiv (IntKind.wrap .u64 (w64 (a1+a3))) (2 ^ (min (Int.toNat 1) (IntKind.bits .u64)))))<(w64 ((w64 ((w64 (Int.fdiv (IntKind.wrap .u64 (w64 (a1+a3))) (2 ^ (min (Int.toNat 1) (IntKind.bits .u64)))))+a2)) - n183))))=true then if (decide ((w64 ((w64 ((w64 (Int.fdiv (IntKind.wrap .u64 (w64 (a1+a3))) (2 ^ (min (Int.toNat 1) (IntKind.bits .u64)))))+a2)) - n183))<a3))=true then (R (w64 (Int.fdiv (IntKind.wrap .u64 (w64 (a1+a3))) (2 ^ (min (Int.toNat 1) (IntKind.bits .u64))))) (w64 ((w64 ((w64 (Int.fdiv (IntKind.wrap .u64 (w64 (a1+a3))) (2 ^ (min (Int.toNat 1) (IntKind.bits .u64)))))+a2)) - n183)) a3 l225).bind fun y232=>if y232.length=l225.length then some y232 else none
 else some l225
 else some l225) (fun k224=>if (decide (n183<(w64 (Int.fdiv (IntKind.wrap .u64 (w64 (a1+a3))) (2 ^ (min (Int.toNat 1) (IntKind.bits .u64)))))))=true then (R a1 n183 (w64 (Int.fdiv (IntKind.wrap .u64 (w64 (a1+a3))) (2 ^ (min (Int.toNat 1) (IntKind.bits .u64))))) a4).bind fun y227=>if y227.length=a4.length then k224 y227 else none
 else k224 a4)
 else if (decide ((w64 (Int.fdiv (IntKind.wrap .u64 (w64 (a1+a3))) (2 ^ (min (Int.toNat 1) (IntKind.bits .u64)))))<(w64 ((w64 ((w64 (Int.fdiv (IntKind.wrap .u64 (w64 (a1+a3))) (2 ^ (min (Int.toNat 1) (IntKind.bits .u64)))))+a2)) - n183))))=true then if (decide ((w64 ((w64 ((w64 (Int.fdiv (IntKind.wrap .u64 (w64 (a1+a3))) (2 ^ (min (Int.toNat 1) (IntKind.bits .u64)))))+a2)) - n183))<a3))=true then (R (w64 (Int.fdiv (IntKind.wrap .u64 (w64 (a1+a3))) (2 ^ (min (Int.toNat 1) (IntKind.bits .u64))))) (w64 ((w64 ((w64 (Int.fdiv (IntKind.wrap .u64 (w64 (a1+a3))) (2 ^ (min (Int.toNat 1) (IntKind.bits .u64)))))+a2)) - n183)) a3 a4).bind fun y237=>if y237.length=a4.length then some y237 else none
 else some a4
 else some a4) (fun k182=>symG_L5 c F a1 a2 a3 a4 k182 F n179 n180)) (fun k178=>if (decide (a2>(w64 (Int.fdiv (IntKind.wrap .u64 (w64 (a1+a3))) (2 ^ (min (Int.toNat 1) (IntKind.bits .u64)))))))=true then k178 (w64 ((w64 ((w64 (Int.fdiv (IntKind.wrap .u64 (w64 (a1+a3))) (2 ^ (min (Int.toNat 1) (IntKind.bits .u64)))))+a2)) - a3)) (w64 (Int.fdiv (IntKind.wrap .u64 (w64 (a1+a3))) (2 ^ (min (Int.toNat 1) (IntKind.bits .u64)))))
 else k178 a1 a2)
def symG{α:Type}(c:α->α->Option Int):Nat->Int->Int->Int->(List α)->Option (List α)
 |0,_,_,_,_=>none
 |F+1,a1,a2,a3,a4=>symG_B c (symG c F) F a1 a2 a3 a4
def stbG_L3{α:Type}(c:α->α->Option Int)(F:Nat)(a1:Int)(n64:Int)(k69:Int->(List α)->Option (List α)):Nat->Int->Int->(List α)->Option (List α)
 |0,_,_,_=>none
 |n+1,n75,n76,l77=>if (decide (n76<=a1))=true then (symG c F n75 (w64 (n75+n64)) n76 l77).bind fun y79=>if y79.length=l77.length then stbG_L3 c F a1 n64 k69 n n76 (w64 (n76+(w64 (2*n64)))) y79 else none
 else k69 n75 l77
def stbG_L2{α:Type}(c:α->α->Option Int)(F:Nat)(a1:Int):Nat->Int->(List α)->Option (List α)
 |0,_,_=>none
 |n+1,n64,l65=>if (decide (n64<a1))=true then jn (fun(l68:List α)=>stbG_L2 c F a1 n (w64 (n64*2)) l68) (fun k67=>jn (fun(n70:Int) (l71:List α)=>jn (fun(l83:List α)=>k67 l83) (fun k82=>if (decide ((w64 (n70+n64))<a1))=true then (symG c F n70 (w64 (n70+n64)) a1 l71).bind fun y85=>if y85.length=l71.length then k82 y85 else none
 else k82 l71)) (fun k69=>stbG_L3 c F a1 n64 k69 F 0 (w64 (2*n64)) l65))
 else some l65
def stbG_L1{α:Type}(c:α->α->Option Int)(F:Nat)(a1:Int)(k46:Int->(List α)->Option (List α)):Nat->Int->Int->(List α)->Option (List α)
 |0,_,_,_=>none
 |n+1,n52,n53,l54=>if (decide (n53<=a1))=true then (insG c F n52 n53 l54).bind fun y56=>if y56.length=l54.length then stbG_L1 c F a1 k46 n n53 (w64 (n53+20)) y56 else none
 else k46 n52 l54
def stbG{α:Type}(c:α->α->Option Int)(F:Nat)(a1:Int)(a2:List α):Option (List α):=
 jn (fun(n47:Int) (l48:List α)=>(insG c F n47 a1 l48).bind fun y59=>if y59.length=l48.length then stbG_L2 c F a1 F 20 y59 else none) (fun k46=>stbG_L1 c F a1 k46 F 0 20 a2)
section
variable{α:Type}
theorem ixA{P:List α}{x:α}{S:List α}{n:Nat}(h:P.length=n):idx (P++x::S) (n:Int)=some x:=by
 subst h
 rw[idx_nat (by simp)];simp
theorem seA{P:List α}{x y:α}{S:List α}{n:Nat}(h:P.length=n):(P++x::S).set n y=P++y::S:=by
 subst h;simp
theorem ixB{P:List α}{x:α}{M:List α}{y:α}{S:List α}{n:Nat}(h:P.length+M.length+1=n):idx (P++x::(M++y::S)) (n:Int)=some y:=by
 have:P++x::(M++y::S)=(P++x::M)++y::S:=by simp
 rw[this];exact ixA (by simp;omega)
theorem seB{P:List α}{x:α}{M:List α}{y z:α}{S:List α}{n:Nat}(h:P.length+M.length+1=n):(P++x::(M++y::S)).set n z=P++x::(M++z::S):=by
 have:P++x::(M++y::S)=(P++x::M)++y::S:=by simp
 rw[this,seA (by simp;omega)];simp
theorem w64n{n:Nat}(h:n<4611686018427387904):w64 (n:Int)=n:=w64_id (by omega) (by omega)
theorem w64a{a b:Nat}(h:a+b<4611686018427387904):w64 ((a:Int)+(b:Int))=((a+b:Nat):Int):=by rw[w64_id (by omega) (by omega)];rfl
theorem w64s{a b:Nat}(h:b<=a)(h':a<4611686018427387904):w64 ((a:Int) - (b:Int))=((a - b:Nat):Int):=by rw[w64_id (by omega) (by omega)];omega
theorem w64p{a:Nat}(h:a<4611686018427387903):w64 ((a:Int)+1)=((a+1:Nat):Int):=w64a (b:=1) (by omega)
theorem w64m{a:Nat}(h:1<=a)(h':a<4611686018427387904):w64 ((a:Int) - 1)=((a - 1:Nat):Int):=w64s (b:=1) h h'
theorem swpG_run(F:Nat)(a b:Nat)(hb:b<1000000000):∀(n i:Nat) (P1 A M B1 B S:List α),A.length=n->B.length=n->P1.length=a+i->P1.length+A.length+M.length+B1.length=b+i->B1.length=i->a+i+n<=b->
  i+n<1000000000->
  ∃r,swpG_L1 F a b n i (P1++A++M++(B1++B)++S)=some r/\r=P1++B++M++(B1++A)++S
 |0,i,P1,A,M,B1,B,S,hA,hB,_,_,_,_,_=>by
  have:=List.length_eq_zero_iff.1 hA
  have:=List.length_eq_zero_iff.1 hB
  subst A;subst B
  exact⟨_,rfl,rfl⟩
 |n+1,i,P1,x::A,M,B1,y::B,S,hA,hB,h1,h2,h3,h4,h5=>by
  simp only[List.length_cons] at hA hB h2
  have e1:P1++x::A++M++(B1++y::B)++S=P1++x::((A++M++B1)++y::(B++S)):=by simp
  have wa:w64 ((a:Int)+(i:Int))=((a+i:Nat):Int):=w64a (by omega)
  have wb:w64 ((b:Int)+(i:Int))=((b+i:Nat):Int):=w64a (by omega)
  rw[swpG_L1,wa,wb,e1,ixB (by simp;omega),Option.bind_some,ixA h1,Option.bind_some,Option.bind_some,Int.toNat_natCast,Int.toNat_natCast,seA h1,ixB (by simp;omega),Option.bind_some,seB (by simp;omega)]
  have e2:P1++y::(A++M++B1++x::(B++S))=(P1++[y])++A++M++((B1++[x])++B)++S:=by simp
  rw[e2]
  obtain⟨r,hr,e⟩:=swpG_run F a b hb n (i+1) (P1++[y]) A M (B1++[x]) B S (by omega) (by omega) (by simp;omega) (by simp;omega) (by simp;omega) (by omega) (by omega)
  exact⟨r,hr,by rw[e];simp⟩
theorem swpG_eq(F a b n:Nat)(P A M B S:List α)(hb:b<1000000000)(hA:A.length=n)(hB:B.length=n)(hP:P.length=a)(h:a+n+M.length=b):
  swpG F a b n (P++A++M++B++S)=some (P++B++M++A++S):=by
 unfold swpG
 rw[if_pos (by omega),Int.toNat_natCast]
 obtain⟨r,hr,e⟩:=swpG_run F a b hb n 0 P A M [] B S hA hB (by simpa using hP) (by simp;omega) rfl (by omega) (by omega)
 simp only[List.nil_append] at hr e
 rw[show((0:Nat):Int)=0 from rfl] at hr
 rw[hr,e]
theorem rotG_run(F m:Nat)(hm:m<500000000)(k:Int->List α->Option (List α)):∀(f:Nat) (P A B S:List α),A≠[]->B≠[]->P.length+A.length=m->m+B.length<1000000000->A.length+B.length<f->
  ∃(i:Nat) (P' A' B' S':List α),rotG_L1 F m k f (A.length:Nat) (B.length:Nat) (P++A++B++S)=k i (P'++A'++B'++S')/\A'.length=i/\B'.length=i/\P'.length+i=m/\P'++B'++A'++S'=P++B++A++S
 |0,P,A,B,S,_,_,_,_,h=>by omega
 |f+1,P,A,B,S,hA,hB,hP,hmB,hf=>by
  have hA0:0<A.length:=List.length_pos_iff.2 hA
  have hB0:0<B.length:=List.length_pos_iff.2 hB
  rw[rotG_L1]
  by_cases he:A.length=B.length
  ·rw[if_neg (by simp[he])]
   exact⟨A.length,P,A,B,S,rfl,rfl,he.symm,hP,rfl⟩
  ·rw[if_pos (by simp;omega),jn_def]
   by_cases hgt:A.length>B.length
   ·rw[if_t (by omega),w64s (by omega) (by omega)]
    have hA12:A=A.take B.length++A.drop B.length:=(List.take_append_drop _ _).symm
    have l1:(A.take B.length).length=B.length:=by rw[List.length_take];omega
    have l2:(A.drop B.length).length=A.length - B.length:=List.length_drop ..
    have hs:=swpG_eq F (m - A.length) m B.length P (A.take B.length) (A.drop B.length) B S (by omega) l1 rfl (by omega) (by omega)
    have e:P++A++B++S=P++A.take B.length++A.drop B.length++B++S:=by
     conv=>lhs;rw[hA12]
     simp
    rw[e,hs,Option.bind_some,if_pos (by simp;omega),w64s (by omega) (by omega)]
    obtain⟨i,P',A',B',S',h1,h2,h3,h4,h5⟩:=rotG_run F m hm k f (P++B) (A.drop B.length) (A.take B.length) S (by intro e;rw[e] at l2;simp at l2;omega) (by intro e;rw[e] at l1;simp at l1;omega)
     (by simp;omega) (by omega) (by omega)
    rw[l1,l2] at h1
    exact⟨i,P',A',B',S',h1,h2,h3,h4,by rw[h5,show P++B++A++S=P++B++(A.take B.length++A.drop B.length)++S by rw[List.take_append_drop]];simp⟩
   ·rw[if_f (by omega),w64s (a:=m) (b:=A.length) (by omega) (by omega),w64a (by omega),w64s (a:=m+B.length) (b:=A.length) (by omega) (by omega)]
    have hB12:B=B.take (B.length - A.length)++B.drop (B.length - A.length):=(List.take_append_drop _ _).symm
    have l1:(B.take (B.length - A.length)).length=B.length - A.length:=by rw[List.length_take];omega
    have l2:(B.drop (B.length - A.length)).length=A.length:=by rw[List.length_drop];omega
    have hs:=swpG_eq F (m - A.length) (m+B.length - A.length) A.length P A (B.take (B.length - A.length)) (B.drop (B.length - A.length)) S (by omega) rfl l2 (by omega) (by omega)
    have e:P++A++B++S=P++A++B.take (B.length - A.length)++B.drop (B.length - A.length)++S:=by
     conv=>lhs;rw[hB12]
     simp
    rw[e,hs,Option.bind_some,if_pos (by simp;omega),w64s (by omega) (by omega)]
    obtain⟨i,P',A',B',S',h1,h2,h3,h4,h5⟩:=rotG_run F m hm k f P (B.drop (B.length - A.length)) (B.take (B.length - A.length)) (A++S) (by intro e;rw[e] at l2;simp at l2;omega) (by intro e;rw[e] at l1;simp at l1;omega)
     (by omega) (by omega) (by omega)
    rw[l1,l2] at h1
    have e3:P++B.drop (B.length - A.length)++B.take (B.length - A.length)++A++S=P++B.drop (B.length - A.length)++B.take (B.length - A.length)++(A++S):=by simp
    rw[e3]
    exact⟨i,P',A',B',S',h1,h2,h3,h4,by rw[h5,show P++B++A++S=P++(B.take (B.length - A.length)++B.drop (B.length - A.length))++A++S by rw[List.take_append_drop]];simp⟩
theorem rotG_eq(F:Nat)(P A B S:List α)(hA:A≠[])(hB:B≠[])(hl:(P++A++B++S).length<400000000)(hF:A.length+B.length<F):
  rotG F (P.length:Nat) ((P.length+A.length:Nat):Int) ((P.length+A.length+B.length:Nat):Int) (P++A++B++S)=some (P++B++A++S):=by
 simp only[List.length_append] at hl
 unfold rotG
 rw[jn_def,w64s (by omega) (by omega),w64s (by omega) (by omega)]
 have e1:P.length+A.length - P.length=A.length:=by omega
 have e2:P.length+A.length+B.length - (P.length+A.length)=B.length:=by omega
 rw[e1,e2]
 obtain⟨i,P',A',B',S',h1,h2,h3,h4,h5⟩:=rotG_run F (P.length+A.length) (by omega) (fun n31 l32=>(swpG F (w64 (((P.length+A.length:Nat):Int) - n31)) ((P.length+A.length:Nat):Int) n31 l32).bind fun y51=>if y51.length=l32.length then some y51 else none)
  F P A B S hA hB rfl (by omega) hF
 rw[h1,w64s (by omega) (by omega)]
 have:=swpG_eq F (P.length+A.length - i) (P.length+A.length) i P' A' [] B' S' (by omega) h2 h3 (by omega) (by simp;omega)
 simp only[List.append_nil] at this
 rw[this,Option.bind_some,if_pos (by simp;omega),h5]
structure Ord(c:α->α->Option Int)(lt:α->α->Bool):Prop where
 cmp:∀x y,∃n,c x y=some n/\decide (n<0)=lt x y
 irr:∀x,lt x x=false
 tr:∀x y z,lt x y=true->lt y z=true->lt x z=true
 wk:∀x y z,lt x y=false->lt y z=false->lt x z=false
def Srt(lt:α->α->Bool)(l:List α):Prop:=l.Pairwise fun x y=>lt y x=false
variable{c:α->α->Option Int}{lt:α->α->Bool}
theorem Ord.asymm(o:Ord c lt){x y:α}(h:lt x y=true):lt y x=false:=by
 cases h':lt y x with
 |false=>rfl
 |true=>have:=o.tr _ _ _ h h';rw[o.irr] at this;simp at this
theorem Ord.le_lt(o:Ord c lt){x y z:α}(h:lt y x=false)(g:lt y z=true):lt x z=true:=by
 cases h':lt x z with
 |true=>rfl
 |false=>have:=o.wk _ _ _ h h';rw[this] at g;simp at g
theorem Ord.lt_le(o:Ord c lt){x y z:α}(h:lt x y=true)(g:lt z y=false):lt x z=true:=by
 cases h':lt x z with
 |true=>rfl
 |false=>have:=o.wk _ _ _ h' g;rw[this] at h;simp at h
theorem Ord.ifc(o:Ord c lt){R:Type}(x y:α)(a b:Option R):((c x y).bind fun n=>if decide (n<0)=true then a else b)=if lt x y=true then a else b:=by
 obtain⟨n,h1,h2⟩:=o.cmp x y
 rw[h1,Option.bind_some,h2]
theorem Ord.ifn(o:Ord c lt){R:Type}(x y:α)(a b:Option R):((c x y).bind fun n=>if (!(decide (n<0)))=true then a else b)=if lt x y=true then b else a:=by
 obtain⟨n,h1,h2⟩:=o.cmp x y
 rw[h1,Option.bind_some,h2]
 cases lt x y<;>simp
theorem bsG{R:Type}(g:Nat->Int->Int->Option R)(k:Int->Option R)(t:Nat->Bool)(lo hi:Nat)(hhi:hi<1000000000)
  (h1:∀(n i j:Nat),lo<=i->j<=hi->g (n+1) i j=if i<j then (if t ((i+j) / 2)=true then g n (((i+j) / 2+1:Nat):Int) j else g n i (((i+j) / 2:Nat):Int)) else k i)
  (ht:∀p q,lo<=p->p<=q->q<hi->t q=true->t p=true):
  ∀(n i j:Nat),lo<=i->i<=j->j<=hi->j - i<n->(∀p,lo<=p->p<i->t p=true)->(∀p,j<=p->p<hi->t p=false)->
   ∃r,lo<=r/\r<=hi/\g n i j=k (r:Nat)/\(∀p,lo<=p->p<r->t p=true)/\∀p,r<=p->p<hi->t p=false
 |0,i,j,_,_,_,h,_,_=>by omega
 |n+1,i,j,hi1,hij,hj,hn,ha,hb=>by
  rw[h1 n i j hi1 hj]
  by_cases hlt:i<j
  ·rw[if_pos hlt]
   cases hc:t ((i+j) / 2)
   ·rw[if_neg (by simp)]
    exact bsG g k t lo hi hhi h1 ht n i ((i+j) / 2) hi1 (by omega) (by omega) (by omega) ha (fun p hp hp'=>by
     by_cases hp2:j<=p
     ·exact hb p hp2 hp'
     ·cases hq:t p with
      |false=>rfl
      |true=>have:=ht ((i+j) / 2) p (by omega) hp (by omega) hq;rw[hc] at this;simp at this)
   ·rw[if_pos rfl]
    exact bsG g k t lo hi hhi h1 ht n ((i+j) / 2+1) j (by omega) (by omega) hj (by omega) (fun p hp hp'=>by
     by_cases hp2:p<i
     ·exact ha p hp hp2
     ·exact ht p ((i+j) / 2) hp (by omega) (by omega) hc) hb
  ·rw[if_neg hlt]
   have:i=j:=by omega
   subst this
   exact⟨i,hi1,hj,rfl,ha,hb⟩
theorem insG_L2_eq(o:Ord c lt)(F a:Nat)(ha:a<1000000000)(P:List α)(hP:P.length=a)(k:List α->Option (List α))(x:α):∀(T1:List α) (n:Nat) (T2 R:List α),a+T1.length<1000000000->T1.length<n->(∀y,y∈T2->lt x y=true)->
  ∃U1 U2,insG_L2 c F a k n ((a+T1.length:Nat):Int) (P++T1++x::(T2++R))=k (P++U1++x::(U2++R))/\U1++U2=T1++T2/\(∀y,y∈U2->lt x y=true)/\∀y,U1.getLast? = some y->lt x y=false:=by
 intro T1
 generalize hlen:T1.length=len
 induction len generalizing T1 with
 |zero=>
  have:=List.length_eq_zero_iff.1 hlen
  subst this
  intro n T2 R h1 h2 h3
  obtain⟨n,rfl⟩:∃m,n=m+1:=⟨n - 1,by omega⟩
  rw[insG_L2,if_f (by omega)]
  exact⟨[],T2,by simp,by simp,h3,by simp⟩
 |succ len ih=>
  intro n T2 R h1 h2 h3
  obtain⟨n,rfl⟩:∃m,n=m+1:=⟨n - 1,by omega⟩
  obtain⟨T,y,rfl⟩:∃T y,T1=T++[y]:=by
   rcases List.eq_nil_or_concat T1 with h|⟨T,y,h⟩
   ·subst h;simp at hlen
   ·exact⟨T,y,by simpa using h⟩
  have hT:T.length=len:=by simpa using hlen
  have e1:P++(T++[y])++x::(T2++R)=(P++T)++y::x::(T2++R):=by simp
  have i1:idx ((P++T)++y::x::(T2++R)) ((a+(len+1):Nat):Int)=some x:=by
   have:=ixB (P:=P++T) (x:=y) (M:=[]) (y:=x) (S:=T2++R) (n:=a+(len+1)) (by simp;omega)
   simpa using this
  have i2:idx ((P++T)++y::x::(T2++R)) ((a+len:Nat):Int)=some y:=ixA (by simp;omega)
  have w1:w64 (((a+(len+1):Nat):Int) - 1)=((a+len:Nat):Int):=by rw[w64m (by omega) (by omega)];rfl
  rw[insG_L2,if_t (by omega),e1,i1,Option.bind_some,w1,i2,Option.bind_some,o.ifc]
  by_cases hlt:lt x y=true
  ·have s1:((P++T)++y::x::(T2++R)).set (a+(len+1)) y=(P++T)++y::y::(T2++R):=by
    have:=seB (P:=P++T) (x:=y) (M:=[]) (y:=x) (z:=y) (S:=T2++R) (n:=a+(len+1)) (by simp;omega)
    simpa using this
   have s2:((P++T)++y::y::(T2++R)).set (a+len) x=(P++T)++x::y::(T2++R):=seA (by simp;omega)
   have i3:idx ((P++T)++y::y::(T2++R)) ((a+len:Nat):Int)=some y:=ixA (by simp;omega)
   simp only[Option.bind_some,Int.toNat_natCast,s1,i3,s2]
   rw[if_pos hlt]
   obtain⟨U1,U2,g1,g2,g3,g4⟩:=ih T hT n (y::T2) R (by omega) (by omega) (fun z hz=>by
    rcases List.mem_cons.1 hz with rfl|hz
    ·exact hlt
    ·exact h3 z hz)
   exact⟨U1,U2,g1,by rw[g2];simp,g3,g4⟩
  ·simp only[Option.bind_some]
   rw[if_neg hlt]
   exact⟨T++[y],T2,by rw[<-e1],rfl,h3,fun z hz=>by simp at hz;subst hz;simpa using hlt⟩
theorem Srt.ins(o:Ord c lt){U1 U2:List α}{x:α}(h:Srt lt (U1++U2))(h2:∀y,y∈U2->lt x y=true)(h1:∀y,U1.getLast? = some y->lt x y=false):Srt lt (U1++x::U2):=by
 unfold Srt at *
 rw[List.pairwise_append] at h ⊢
 obtain⟨a1,a2,a3⟩:=h
 have key:∀y,y∈U1->lt x y=false:=by
  intro y hy
  rcases List.eq_nil_or_concat U1 with e|⟨T,z,e⟩
  ·subst e;simp at hy
  ·have e:U1=T++[z]:=by simpa using e
   subst e
   have hz:=h1 z (by simp)
   rw[List.pairwise_append] at a1
   rcases List.mem_append.1 hy with hy|hy
   ·exact o.wk _ _ _ hz (a1.2.2 y hy z (by simp))
   ·simp at hy;subst hy;exact hz
 refine⟨a1,List.pairwise_cons.2 ⟨fun y hy=>o.asymm (h2 y hy),a2⟩,fun y hy z hz=>?_⟩
 rcases List.mem_cons.1 hz with rfl|hz
 ·exact key y hy
 ·exact a3 y hy z hz
theorem insG_L1_eq(o:Ord c lt)(F a b:Nat)(hF:b<F)(hb:b<500000000)(P S:List α)(hP:P.length=a):∀(U T:List α) (f:Nat),Srt lt T->a+T.length+U.length=b->U.length<f->
  ∃T',insG_L1 c F a b f ((a+T.length:Nat):Int) (P++T++U++S)=some (P++T'++S)/\Srt lt T'/\T'.Perm (T++U)
 |[],T,f,hT,hl,hf=>by
  obtain⟨f,rfl⟩:∃m,f=m+1:=⟨f - 1,by omega⟩
  rw[insG_L1,if_f (by simp at hl;omega)]
  exact⟨T,by simp,hT,by simp⟩
 |x::U,T,f,hT,hl,hf=>by
  obtain⟨f,rfl⟩:∃m,f=m+1:=⟨f - 1,by omega⟩
  simp only[List.length_cons] at hl hf
  rw[insG_L1,if_t (by omega)]
  simp only[jn_def]
  obtain⟨U1,U2,g1,g2,g3,g4⟩:=insG_L2_eq o F a (by omega) P hP (fun l42=>insG_L1 c F a b f (w64 (((a+T.length:Nat):Int)+1)) l42) x T F [] (U++S) (by omega) (by omega) (by simp)
  have e:P++T++x::U++S=P++T++x::([]++(U++S)):=by simp
  rw[e,g1]
  simp only[List.append_nil] at g2
  have w1:w64 (((a+T.length:Nat):Int)+1)=((a+(U1++x::U2).length:Nat):Int):=by
   rw[w64p (by omega)]
   have:(U1++U2).length=T.length:=by rw[g2]
   simp at this ⊢;omega
  have e2:P++U1++x::(U2++(U++S))=P++(U1++x::U2)++U++S:=by simp
  have hlen:(U1++U2).length=T.length:=by rw[g2]
  simp at hlen
  obtain⟨T',r1,r2,r3⟩:=insG_L1_eq o F a b hF hb P S hP U (U1++x::U2) f (Srt.ins o (by rw[g2];exact hT) g3 g4) (by simp;omega) (by omega)
  rw[w1,e2]
  refine⟨T',r1,r2,r3.trans ?_⟩
  have:(U1++x::U2).Perm (T++[x]):=by
   rw[<-g2]
   exact(List.perm_middle (l₁:=U1) (l₂:=U2) (a:=x)).trans (List.perm_append_singleton x _).symm
  have:=this.append_right U
  simpa using this
theorem insG_eq(o:Ord c lt)(F:Nat)(P A S:List α)(hl:(P++A++S).length<400000000)(hF:P.length+A.length+5<F):
  ∃A',insG c F (P.length:Nat) ((P.length+A.length:Nat):Int) (P++A++S)=some (P++A'++S)/\Srt lt A'/\A'.Perm A:=by
 simp only[List.length_append] at hl
 unfold insG
 rw[w64p (by omega)]
 cases A with
 |nil=>
  obtain⟨F,rfl⟩:∃m,F=m+1:=⟨F - 1,by omega⟩
  rw[insG_L1,if_f (by simp;omega)]
  exact⟨[],by simp,List.Pairwise.nil,.refl _⟩
 |cons x A=>
  obtain⟨T',h1,h2,h3⟩:=insG_L1_eq o F P.length (P.length+(x::A).length) (by omega) (by simp at hl ⊢;omega) P S rfl A [x] F (by simp[Srt]) (by simp;omega) (by simp at hF;omega)
  have e:P++x::A++S=P++[x]++A++S:=by simp
  rw[e]
  exact⟨T',h1,h2,by simpa using h3⟩
theorem Srt.app{A B:List α}:Srt lt (A++B)<->Srt lt A/\Srt lt B/\∀x,x∈A->∀y,y∈B->lt y x=false:=by
 unfold Srt;rw[List.pairwise_append]
theorem Srt.at'{l:List α}(h:Srt lt l){p q:Nat}(hpq:p<q)(hq:q<l.length):lt l[q] (l[p]'(by omega))=false:=
 List.pairwise_iff_getElem.1 h p q (by omega) hq hpq
theorem Srt.le(o:Ord c lt){l:List α}(h:Srt lt l){p q:Nat}(hpq:p<=q)(hq:q<l.length):lt l[q] (l[p]'(by omega))=false:=by
 rcases Nat.lt_or_ge p q with h1|h1
 ·exact h.at' h1 hq
 ·have:p=q:=by omega
  subst this;exact o.irr _
theorem getA{P A S:List α}{j:Nat}(hj:P.length<=j)(h:j<P.length+A.length):(P++A++S)[j]? = A[j - P.length]?:=by
 rw[List.append_assoc,List.getElem?_append,if_neg (by omega),List.getElem?_append,if_pos (by omega)]
theorem idxA{P A S:List α}{j:Nat}(hj:P.length<=j)(h:j<P.length+A.length):idx (P++A++S) (j:Int)=some (A[j - P.length]'(by omega)):=by
 unfold idx
 rw[if_pos (by omega),Int.toNat_natCast,getA hj h,List.getElem?_eq_getElem (by omega)]
theorem symG_L2_eq(F e:Nat)(he:e<1000000000)(k:List α->Option (List α))(x:α):∀(B1 P R:List α) (f:Nat),P.length+B1.length+1=e->B1.length<f->
  symG_L2 F (e:Nat) k f (P.length:Nat) (P++x::B1++R)=k (P++B1++x::R)
 |[],P,R,f,h,hf=>by
  obtain⟨f,rfl⟩:∃m,f=m+1:=⟨f - 1,by omega⟩
  simp only[List.length_nil] at h
  rw[symG_L2,w64m (by omega) (by omega),if_f (by omega)]
  simp
 |y::B1,P,R,f,h,hf=>by
  obtain⟨f,rfl⟩:∃m,f=m+1:=⟨f - 1,by omega⟩
  simp only[List.length_cons] at h hf
  have e1:P++x::(y::B1)++R=P++x::([]++y::(B1++R)):=by simp
  rw[symG_L2,w64m (by omega) (by omega),if_t (by omega),w64p (by omega),e1,ixB (by simp),Option.bind_some,ixA rfl,Option.bind_some,Option.bind_some,Int.toNat_natCast,Int.toNat_natCast,seA rfl,ixB (by simp),Option.bind_some,seB (by simp)]
  have e2:P++y::([]++x::(B1++R))=(P++[y])++x::B1++R:=by simp
  have e3:P.length+1=(P++[y]).length:=by simp
  rw[e2,e3,symG_L2_eq F e he k x B1 (P++[y]) R f (by simp;omega) (by omega)]
  simp
theorem symG_L4_eq(F s:Nat)(hs:s<500000000)(k:List α->Option (List α))(y:α)(P:List α)(hP:P.length=s):∀(A2 R:List α) (f:Nat),A2.length<400000000->A2.length<f->
  symG_L4 F (s:Nat) k f ((s+A2.length:Nat):Int) (P++A2++y::R)=k (P++y::(A2++R)):=by
 intro A2
 generalize hlen:A2.length=len
 induction len generalizing A2 with
 |zero=>
  have:=List.length_eq_zero_iff.1 hlen
  subst this
  intro R f h hf
  obtain⟨f,rfl⟩:∃m,f=m+1:=⟨f - 1,by omega⟩
  rw[symG_L4,if_f (by omega)]
  simp
 |succ len ih=>
  intro R f h hf
  obtain⟨f,rfl⟩:∃m,f=m+1:=⟨f - 1,by omega⟩
  obtain⟨T,z,rfl⟩:∃T z,A2=T++[z]:=by
   rcases List.eq_nil_or_concat A2 with h|⟨T,y,h⟩
   ·subst h;simp at hlen
   ·exact⟨T,y,by simpa using h⟩
  have hT:T.length=len:=by simpa using hlen
  have e1:P++(T++[z])++y::R=(P++T)++z::([]++y::R):=by simp
  have w1:w64 (((s+(len+1):Nat):Int) - 1)=((s+len:Nat):Int):=by rw[w64m (by omega) (by omega)];rfl
  rw[symG_L4,if_t (by omega),w1,e1,ixA (by simp;omega),Option.bind_some,ixB (by simp;omega),Option.bind_some,Option.bind_some,Int.toNat_natCast,Int.toNat_natCast,seB (by simp;omega),ixA (by simp;omega),Option.bind_some,seA (by simp;omega)]
  have e2:P++T++y::([]++z::R)=P++T++y::(z::R):=by simp
  rw[e2,ih T hT (z::R) f (by omega) (by omega)]
  simp
theorem midG{i j:Nat}(h:i+j<4000000000):w64 (Int.fdiv (IntKind.wrap .u64 (w64 ((i:Int)+(j:Int)))) (2 ^ (min (Int.toNat 1) (IntKind.bits .u64))))=(((i+j) / 2:Nat):Int):=mid_nat (by omega)
theorem symG_one1(o:Ord c lt)(F:Nat)(P:List α)(x:α)(B S:List α)(R:Int->Int->Int->List α->Option (List α))(hB:Srt lt B)(hB0:B≠[])(hl:(P++x::B++S).length<400000000)(hF:B.length+5<F):
  ∃C,symG_B c R F (P.length:Nat) ((P.length+1:Nat):Int) ((P.length+1+B.length:Nat):Int) (P++x::B++S)=some (P++C++S)/\Srt lt C/\C.Perm (x::B):=by
 simp only[List.length_append,List.length_cons] at hl
 unfold symG_B
 rw[w64s (by omega) (by omega),if_pos (by simp),jn_def]
 have hx:idx (P++x::B++S) (P.length:Nat)=some x:=by
  have:P++x::B++S=P++x::(B++S):=by simp
  rw[this];exact ixA rfl
 have hy:∀h:Nat,(h1:P.length+1<=h)->(hh:h<P.length+1+B.length)->idx (P++x::B++S) (h:Nat)=some (B[h - (P.length+1)]'(by omega)):=by
  intro h h1 h2
  have:P++x::B++S=(P++[x])++B++S:=by simp
  rw[this,idxA (by simp;omega) (by simp;omega)]
  simp
 have hb:=fun K=>bsG (symG_L1 c F (P.length:Nat) (P++x::B++S) K) K
  (fun h=>if hh:P.length+1<=h/\h<P.length+1+B.length then lt (B[h - (P.length+1)]'(by omega)) x else false) (P.length+1) (P.length+1+B.length) (by omega) (fun n i j hi hj=>by
   rw[symG_L1]
   by_cases hij:i<j
   ·rw[if_t (by omega),if_pos hij,midG (by omega),hy ((i+j) / 2) (by omega) (by omega),Option.bind_some,hx,Option.bind_some]
    simp only[jn_def]
    rw[o.ifc,dif_pos (show P.length+1<=(i+j) / 2/\(i+j) / 2<P.length+1+B.length by omega),w64p (by omega)]
   ·rw[if_f (by omega),if_neg hij]) (fun p q hp hpq hq=>by
   rw[dif_pos (show P.length+1<=q/\q<P.length+1+B.length by omega),dif_pos (show P.length+1<=p/\p<P.length+1+B.length by omega)]
   intro h
   exact o.le_lt (hB.le o (p:=p - (P.length+1)) (q:=q - (P.length+1)) (by omega) (by omega)) h)
  F (P.length+1) (P.length+1+B.length) (Nat.le_refl _) (by omega) (Nat.le_refl _) (by omega) (fun p h h'=>by omega) (fun p h h'=>by omega)
 obtain⟨r,r1,r2,r3,r4,r5⟩:=hb (fun(n114:Int)=>jn (fun(l131:List α)=>some l131) (fun k130=>symG_L2 F n114 k130 F (P.length:Nat) (P++x::B++S)))
 rw[r3]
 simp only[jn_def]
 have hB12:B=B.take (r - (P.length+1))++B.drop (r - (P.length+1)):=(List.take_append_drop _ _).symm
 have l1:(B.take (r - (P.length+1))).length=r - (P.length+1):=by rw[List.length_take];omega
 have e1:P++x::B++S=P++x::(B.take (r - (P.length+1)))++(B.drop (r - (P.length+1))++S):=by
  rw[show P++x::B++S=P++x::(B.take (r - (P.length+1))++B.drop (r - (P.length+1)))++S by rw[List.take_append_drop]]
  simp only[List.append_assoc,List.cons_append]
 rw[e1,symG_L2_eq F r (by omega) _ x _ P _ F (by omega) (by omega)]
 refine⟨B.take (r - (P.length+1))++x::B.drop (r - (P.length+1)),by simp,?_,?_⟩
 ·have hB':Srt lt (B.take (r - (P.length+1))++B.drop (r - (P.length+1))):=by rw[<-hB12];exact hB
  obtain⟨s1,s2,s3⟩:=Srt.app.1 hB'
  have d1:∀y,y∈B.take (r - (P.length+1))->lt y x=true:=by
   intro y hy
   obtain⟨i,hi,rfl⟩:=List.getElem_of_mem hy
   have hi':i<r - (P.length+1):=by omega
   have:=r4 (P.length+1+i) (by omega) (by omega)
   rw[dif_pos (show P.length+1<=P.length+1+i/\P.length+1+i<P.length+1+B.length by omega)] at this
   simpa using this
  have d2:∀y,y∈B.drop (r - (P.length+1))->lt y x=false:=by
   intro y hy
   obtain⟨i,hi,rfl⟩:=List.getElem_of_mem hy
   have hi':i<B.length - (r - (P.length+1)):=by simpa using hi
   have:=r5 (r+i) (by omega) (by omega)
   rw[dif_pos (show P.length+1<=r+i/\r+i<P.length+1+B.length by omega)] at this
   have e:r+i - (P.length+1)=r - (P.length+1)+i:=by omega
   simp only[e] at this
   simpa using this
  refine Srt.app.2 ⟨s1,List.pairwise_cons.2 ⟨d2,s2⟩,fun y hyy z hz=>?_⟩
  rcases List.mem_cons.1 hz with e|hz
  ·rw[e];exact o.asymm (d1 y hyy)
  ·exact s3 y hyy z hz
 ·have:=(List.perm_middle (l₁:=B.take (r - (P.length+1))) (l₂:=B.drop (r - (P.length+1))) (a:=x))
  rw[List.take_append_drop] at this
  exact this
theorem symG_one2(o:Ord c lt)(F:Nat)(P:List α)(y:α)(A S:List α)(R:Int->Int->Int->List α->Option (List α))(hA:Srt lt A)(hA1:A.length≠1)(hA0:A≠[])(hl:(P++A++y::S).length<400000000)(hF:A.length+5<F):
  ∃C,symG_B c R F (P.length:Nat) ((P.length+A.length:Nat):Int) ((P.length+A.length+1:Nat):Int) (P++A++y::S)=some (P++C++S)/\Srt lt C/\C.Perm (A++[y]):=by
 simp only[List.length_append,List.length_cons] at hl
 unfold symG_B
 rw[w64s (by omega) (by omega),if_neg (by simp;omega),w64s (by omega) (by omega),if_pos (by simp),jn_def]
 have hx:idx (P++A++y::S) ((P.length+A.length:Nat):Int)=some y:=ixA (by simp)
 have hy:∀h:Nat,(h1:P.length<=h)->(hh:h<P.length+A.length)->idx (P++A++y::S) (h:Nat)=some (A[h - P.length]'(by omega)):=fun h h1 h2=>idxA h1 h2
 have hb:=fun K=>bsG (symG_L3 c F ((P.length+A.length:Nat):Int) (P++A++y::S) K) K
  (fun h=>if hh:P.length<=h/\h<P.length+A.length then !lt y (A[h - P.length]'(by omega)) else false) P.length (P.length+A.length) (by omega) (fun n i j hi hj=>by
   rw[symG_L3]
   by_cases hij:i<j
   ·rw[if_t (by omega),if_pos hij,midG (by omega),hx,Option.bind_some,hy ((i+j) / 2) (by omega) (by omega),Option.bind_some]
    simp only[jn_def]
    rw[o.ifn,dif_pos (show P.length<=(i+j) / 2/\(i+j) / 2<P.length+A.length by omega),w64p (by omega)]
    cases lt y (A[(i+j) / 2 - P.length]'(by omega))<;>simp
   ·rw[if_f (by omega),if_neg hij]) (fun p q hp hpq hq=>by
   rw[dif_pos (show P.length<=q/\q<P.length+A.length by omega),dif_pos (show P.length<=p/\p<P.length+A.length by omega)]
   simp only[Bool.not_eq_true']
   intro h
   exact o.wk _ _ _ h (hA.le o (p:=p - P.length) (q:=q - P.length) (by omega) (by omega)))
  F P.length (P.length+A.length) (Nat.le_refl _) (by omega) (Nat.le_refl _) (by omega) (fun p h h'=>by omega) (fun p h h'=>by omega)
 obtain⟨r,r1,r2,r3,r4,r5⟩:=hb (fun(n147:Int)=>jn (fun(l164:List α)=>some l164) (fun k163=>symG_L4 F n147 k163 F ((P.length+A.length:Nat):Int) (P++A++y::S)))
 rw[r3]
 simp only[jn_def]
 have hA12:A=A.take (r - P.length)++A.drop (r - P.length):=(List.take_append_drop _ _).symm
 have l1:(A.take (r - P.length)).length=r - P.length:=by rw[List.length_take];omega
 have l2:(A.drop (r - P.length)).length=A.length - (r - P.length):=List.length_drop ..
 have e1:P++A++y::S=(P++A.take (r - P.length))++A.drop (r - P.length)++y::S:=by
  conv=>lhs;rw[hA12]
  simp
 have e2:P.length+A.length=r+(A.drop (r - P.length)).length:=by omega
 rw[e1,e2,symG_L4_eq F r (by omega) _ y (P++A.take (r - P.length)) (by simp;omega) _ S F (by omega) (by omega)]
 refine⟨A.take (r - P.length)++y::A.drop (r - P.length),by simp,?_,?_⟩
 ·have hA':Srt lt (A.take (r - P.length)++A.drop (r - P.length)):=by rw[<-hA12];exact hA
  obtain⟨s1,s2,s3⟩:=Srt.app.1 hA'
  have d1:∀z,z∈A.take (r - P.length)->lt y z=false:=by
   intro z hz
   obtain⟨i,hi,rfl⟩:=List.getElem_of_mem hz
   have hi':i<r - P.length:=by omega
   have:=r4 (P.length+i) (by omega) (by omega)
   rw[dif_pos (show P.length<=P.length+i/\P.length+i<P.length+A.length by omega)] at this
   simpa using this
  have d2:∀z,z∈A.drop (r - P.length)->lt y z=true:=by
   intro z hz
   obtain⟨i,hi,rfl⟩:=List.getElem_of_mem hz
   have hi':i<A.length - (r - P.length):=by simpa using hi
   have:=r5 (r+i) (by omega) (by omega)
   rw[dif_pos (show P.length<=r+i/\r+i<P.length+A.length by omega)] at this
   have e:r+i - P.length=r - P.length+i:=by omega
   simp only[e] at this
   simpa using this
  refine Srt.app.2 ⟨s1,List.pairwise_cons.2 ⟨fun z hz=>o.asymm (d2 z hz),s2⟩,fun z hz z' hz'=>?_⟩
  rcases List.mem_cons.1 hz' with rfl|hz'
  ·exact d1 z hz
  ·exact s3 z hz z' hz'
 ·have:=(List.perm_middle (l₁:=A.take (r - P.length)) (l₂:=A.drop (r - P.length)) (a:=y))
  rw[List.take_append_drop] at this
  exact this.trans (List.perm_append_singleton y A).symm
def Merges(lt:α->α->Bool)(R:Int->Int->Int->List α->Option (List α))(N:Nat):Prop:=
 ∀P A B S:List α,Srt lt A->Srt lt B->A≠[]->B≠[]->A.length+B.length<N->(P++A++B++S).length<400000000->
  ∃C,R (P.length:Nat) ((P.length+A.length:Nat):Int) ((P.length+A.length+B.length:Nat):Int) (P++A++B++S)=some (P++C++S)/\Srt lt C/\C.Perm (A++B)
theorem Merges.tail{R:Int->Int->Int->List α->Option (List α)}{N:Nat}(hR:Merges lt R N){P A B S l:List α}{p q r:Nat}(hl:l=P++A++B++S)(hp:P.length=p)(hq:P.length+A.length=q)(hr:P.length+A.length+B.length=r)
  (hA:Srt lt A) (hB:Srt lt B) (hn:A.length+B.length<N) (ht:(P++A++B++S).length<400000000) (k:List α->Option (List α)):
  ∃C,(if decide ((p:Int)<(q:Int))=true then if decide ((q:Int)<(r:Int))=true then (R p q r l).bind fun y=>if y.length=l.length then k y else none else k l else k l)=k (P++C++S)/\Srt lt C/\C.Perm (A++B):=by
 subst hl;subst hp;subst hq;subst hr
 by_cases h1:A=[]
 ·subst h1
  rw[if_f (by simp)]
  exact⟨B,by simp,hB,by simp⟩
 have h1':=List.length_pos_iff.2 h1
 rw[if_t (by omega)]
 by_cases h2:B=[]
 ·subst h2
  rw[if_f (by simp)]
  exact⟨A,by simp,hA,by simp⟩
 have h2':=List.length_pos_iff.2 h2
 rw[if_t (by omega)]
 obtain⟨C,c1,c2,c3⟩:=hR P A B S hA hB h1 h2 hn ht
 rw[c1,Option.bind_some,if_pos]
 ·exact⟨C,rfl,c2,c3⟩
 ·have:=c3.length_eq;simp at this ⊢;omega
theorem symG_B_eq(o:Ord c lt)(F N:Nat)(R:Int->Int->Int->List α->Option (List α))(hR:Merges lt R N)(P A B S:List α)(hA:Srt lt A)(hB:Srt lt B)(hA0:A≠[])(hB0:B≠[])(hN:A.length+B.length<=N)
    (hl:(P++A++B++S).length<400000000) (hF:A.length+B.length+10<F):
    ∃C,symG_B c R F (P.length:Nat) ((P.length+A.length:Nat):Int) ((P.length+A.length+B.length:Nat):Int) (P++A++B++S)=some (P++C++S)/\Srt lt C/\C.Perm (A++B):=by
  have hA1:=List.length_pos_iff.2 hA0
  have hB1:=List.length_pos_iff.2 hB0
  by_cases hone:A.length=1
  · obtain⟨x,rfl⟩:∃x,A=[x]:=by
      match A,hone with
      |[x],_=>exact⟨x,rfl⟩
    have e:P++[x]++B++S=P++x::B++S:=by simp
    rw[e] at hl ⊢
    obtain⟨C,c1,c2,c3⟩:=symG_one1 o F P x B S R hB hB0 hl (by omega)
    exact⟨C,by simpa using c1,c2,by simpa using c3⟩
  by_cases hone2:B.length=1
  · obtain⟨y,rfl⟩:∃y,B=[y]:=by
      match B,hone2 with
      |[y],_=>exact⟨y,rfl⟩
    have e:P++A++[y]++S=P++A++y::S:=by simp
    rw[e] at hl ⊢
    obtain⟨C,c1,c2,c3⟩:=symG_one2 o F P y A S R hA hone hA0 hl (by omega)
    exact⟨C,by simpa using c1,c2,c3⟩
  simp only[List.length_append] at hl
  generalize ha:P.length=a
  generalize hm:a+A.length=m
  generalize hb:m+B.length=b
  have hmid:∃mid,(a+b) / 2=mid:=⟨_,rfl⟩
  obtain⟨mid,hmid⟩:=hmid
  have wmid:=midG (i:=a) (j:=b) (by omega)
  rw[hmid] at wmid
  have wn:=w64a (a:=mid) (b:=m) (by omega)
  unfold symG_B
  rw[w64s (by omega) (by omega),if_neg (by simp;omega),w64s (by omega) (by omega),if_neg (by simp;omega)]
  simp only[jn_def,wmid,wn]
  -- the elements
  have gx:∀i,a<=i->(h:i<m)->∃x,A[i - a]? = some x/\idx (P++A++B++S) (i:Nat)=some x:=by
    intro i h1 h2
    refine⟨A[i - a]'(by omega),List.getElem?_eq_getElem _,?_⟩
    have e:P++A++B++S=P++A++(B++S):=by simp
    rw[e,idxA (by omega) (by omega)]
    simp[ha]
  have gy:∀i,m<=i->(h:i<b)->∃x,B[i - m]? = some x/\idx (P++A++B++S) (i:Nat)=some x:=by
    intro i h1 h2
    refine⟨B[i - m]'(by omega),List.getElem?_eq_getElem _,?_⟩
    rw[idxA (P:=P++A) (by simp;omega) (by simp;omega)]
    have e:i - (P++A).length=i - m:=by simp;omega
    simp only[e]
  let t:Nat->Bool:=fun i=>match A[i - a]?,B[mid+m - 1 - i - m]? with|some x,some y=>!lt y x|_,_=>false
  have tle:∀p q:Nat,a<=p->p<=q->q<m->m<=mid+m - 1 - q->mid+m - 1 - p<b->q<=mid+m - 1->t q=true->t p=true:=by
    intro p q h1 h2 h3 h4 h5 h6 h
    obtain⟨x,x1,_⟩:=gx q (by omega) h3
    obtain⟨x',x1',_⟩:=gx p h1 (by omega)
    obtain⟨y,y1,_⟩:=gy (mid+m - 1 - q) h4 (by omega)
    obtain⟨y',y1',_⟩:=gy (mid+m - 1 - p) (by omega) h5
    simp only[t,x1,x1',y1,y1',Bool.not_eq_true'] at h ⊢
    have a1:lt x x'=false:=by
      have:=hA.le o (p:=p - a) (q:=q - a) (by omega) (by omega)
      rw[List.getElem?_eq_getElem (by omega)] at x1 x1'
      simp only[Option.some.injEq] at x1 x1'
      rw[x1,x1'] at this;exact this
    have a2:lt y' y=false:=by
      have:=hB.le o (p:=mid+m - 1 - q - m) (q:=mid+m - 1 - p - m) (by omega) (by omega)
      rw[List.getElem?_eq_getElem (by omega)] at y1 y1'
      simp only[Option.some.injEq] at y1 y1'
      rw[y1,y1'] at this;exact this
    exact o.wk _ _ _ a2 (o.wk _ _ _ h a1)
  have search:∀(lo hi:Nat) (K:Int->Option (List α)),a<=lo->lo<=hi->hi<=m->hi<=mid->mid+m<=lo+b->
      ∃s,lo<=s/\s<=hi/\symG_L5 c F (a:Nat) (m:Nat) (b:Nat) (P++A++B++S) K F (lo:Nat) (hi:Nat)=K (s:Nat)/\(∀p,lo<=p->p<s->t p=true)/\∀p,s<=p->p<hi->t p=false:=by
    intro lo hi K h1 h2 h3 h4 h5
    refine bsG (symG_L5 c F (a:Nat) (m:Nat) (b:Nat) (P++A++B++S) K) K t lo hi (by omega) (fun n i j hi' hj=>?_) (fun p q hp hpq hq=>tle p q (by omega) hpq (by omega) (by omega) (by omega) (by omega)) F lo hi (Nat.le_refl _) h2 (Nat.le_refl _) (by omega) (fun p h h'=>by omega) (fun p h h'=>by omega)
    rw[symG_L5]
    by_cases hij:i<j
    · have wh:=midG (i:=i) (j:=j) (by omega)
      obtain⟨h,hh⟩:∃h,(i+j) / 2=h:=⟨_,rfl⟩
      rw[hh] at wh ⊢
      obtain⟨x,x1,x2⟩:=gx h (by omega) (by omega)
      obtain⟨y,y1,y2⟩:=gy (mid+m - 1 - h) (by omega) (by omega)
      rw[if_t (by omega),if_pos hij]
      simp only[wmid,wn,wh,jn_def]
      rw[w64m (by omega) (by omega),w64s (by omega) (by omega),y2,Option.bind_some,x2,Option.bind_some,o.ifn,w64p (by omega)]
      simp only[t,x1,y1]
      cases lt y x<;>simp
    · rw[if_f (by omega),if_neg hij]
  -- behind the search
  have rest:∀s:Nat,a<=s->s<=m->s<=mid->mid+m - s<=b->(∀p,a<=p->p<s->mid+m - s<b->p+1=s->t p=true)->(s<m->m<mid+m - s->t s=false)->
      ∀K:Int->Option (List α),(K=fun n183=>(if decide (n183<(m:Int))=true then
        if decide ((m:Int)<w64 (((mid+m:Nat):Int) - n183))=true then (rotG F n183 (m:Int) (w64 (((mid+m:Nat):Int) - n183)) (P++A++B++S)).bind fun y=>if y.length=(P++A++B++S).length then
          (if decide ((a:Int)<n183)=true then (if decide (n183<(mid:Int))=true then (R a n183 mid y).bind fun z=>if z.length=y.length then
            (if decide ((mid:Int)<w64 (((mid+m:Nat):Int) - n183))=true then if decide (w64 (((mid+m:Nat):Int) - n183)<(b:Int))=true then (R mid (w64 (((mid+m:Nat):Int) - n183)) b z).bind fun u=>if u.length=z.length then some u else none else some z else some z) else none
            else (if decide ((mid:Int)<w64 (((mid+m:Nat):Int) - n183))=true then if decide (w64 (((mid+m:Nat):Int) - n183)<(b:Int))=true then (R mid (w64 (((mid+m:Nat):Int) - n183)) b y).bind fun u=>if u.length=y.length then some u else none else some y else some y))
            else (if decide ((mid:Int)<w64 (((mid+m:Nat):Int) - n183))=true then if decide (w64 (((mid+m:Nat):Int) - n183)<(b:Int))=true then (R mid (w64 (((mid+m:Nat):Int) - n183)) b y).bind fun u=>if u.length=y.length then some u else none else some y else some y)) else none
        else
          (if decide ((a:Int)<n183)=true then (if decide (n183<(mid:Int))=true then (R a n183 mid (P++A++B++S)).bind fun z=>if z.length=(P++A++B++S).length then
            (if decide ((mid:Int)<w64 (((mid+m:Nat):Int) - n183))=true then if decide (w64 (((mid+m:Nat):Int) - n183)<(b:Int))=true then (R mid (w64 (((mid+m:Nat):Int) - n183)) b z).bind fun u=>if u.length=z.length then some u else none else some z else some z) else none
            else (if decide ((mid:Int)<w64 (((mid+m:Nat):Int) - n183))=true then if decide (w64 (((mid+m:Nat):Int) - n183)<(b:Int))=true then (R mid (w64 (((mid+m:Nat):Int) - n183)) b (P++A++B++S)).bind fun u=>if u.length=(P++A++B++S).length then some u else none else some (P++A++B++S) else some (P++A++B++S)))
            else (if decide ((mid:Int)<w64 (((mid+m:Nat):Int) - n183))=true then if decide (w64 (((mid+m:Nat):Int) - n183)<(b:Int))=true then (R mid (w64 (((mid+m:Nat):Int) - n183)) b (P++A++B++S)).bind fun u=>if u.length=(P++A++B++S).length then some u else none else some (P++A++B++S) else some (P++A++B++S)))
      else
          (if decide ((a:Int)<n183)=true then (if decide (n183<(mid:Int))=true then (R a n183 mid (P++A++B++S)).bind fun z=>if z.length=(P++A++B++S).length then
            (if decide ((mid:Int)<w64 (((mid+m:Nat):Int) - n183))=true then if decide (w64 (((mid+m:Nat):Int) - n183)<(b:Int))=true then (R mid (w64 (((mid+m:Nat):Int) - n183)) b z).bind fun u=>if u.length=z.length then some u else none else some z else some z) else none
            else (if decide ((mid:Int)<w64 (((mid+m:Nat):Int) - n183))=true then if decide (w64 (((mid+m:Nat):Int) - n183)<(b:Int))=true then (R mid (w64 (((mid+m:Nat):Int) - n183)) b (P++A++B++S)).bind fun u=>if u.length=(P++A++B++S).length then some u else none else some (P++A++B++S) else some (P++A++B++S)))
            else (if decide ((mid:Int)<w64 (((mid+m:Nat):Int) - n183))=true then if decide (w64 (((mid+m:Nat):Int) - n183)<(b:Int))=true then (R mid (w64 (((mid+m:Nat):Int) - n183)) b (P++A++B++S)).bind fun u=>if u.length=(P++A++B++S).length then some u else none else some (P++A++B++S) else some (P++A++B++S)))))->
      ∃C,K (s:Nat)=some (P++C++S)/\Srt lt C/\C.Perm (A++B):=by
    intro s h1 h2 h3 h4 ht hf K hK
    subst hK
    have we:=w64s (a:=mid+m) (b:=s) (by omega) (by omega)
    simp only[we]
    obtain⟨A1,A2,hAs,la1⟩:∃A1 A2,A=A1++A2/\A1.length=s - a:=⟨A.take (s - a),A.drop (s - a),(List.take_append_drop _ _).symm,by rw[List.length_take];omega⟩
    obtain⟨B1,B2,hBs,lb1⟩:∃B1 B2,B=B1++B2/\B1.length=mid - s:=⟨B.take (mid - s),B.drop (mid - s),(List.take_append_drop _ _).symm,by rw[List.length_take];omega⟩
    have la:A1.length+A2.length=A.length:=by rw[hAs];simp
    have lb:B1.length+B2.length=B.length:=by rw[hBs];simp
    rw[hAs] at hA;rw[hBs] at hB
    obtain⟨sa1,sa2,sa3⟩:=Srt.app.1 hA
    obtain⟨sb1,sb2,sb3⟩:=Srt.app.1 hB
    -- what is in the first half is not greater than what is in the second
    have cross1:∀x,x∈A1->∀y,y∈B2->lt y x=false:=by
      intro x hx y hy
      have n1:0<A1.length:=List.length_pos_of_mem hx
      have n2:0<B2.length:=List.length_pos_of_mem hy
      have hq:=ht (s - 1) (by omega) (by omega) (by omega) (by omega)
      have e1:A[s - 1 - a]? = some (A1[A1.length - 1]'(by omega)):=by
        rw[hAs,List.getElem?_append,if_pos (by omega),List.getElem?_eq_getElem (by omega)]
        congr 2;omega
      have e2:B[mid+m - 1 - (s - 1) - m]? = some (B2[0]'(by omega)):=by
        rw[hBs,List.getElem?_append,if_neg (by omega),List.getElem?_eq_getElem (by omega)]
        congr 2;omega
      simp only[t,e1,e2,Bool.not_eq_true'] at hq
      obtain⟨i,hi,rfl⟩:=List.getElem_of_mem hx
      obtain⟨j,hj,rfl⟩:=List.getElem_of_mem hy
      exact o.wk _ _ _ (sb2.le o (p:=0) (q:=j) (by omega) hj) (o.wk _ _ _ hq (sa1.le o (p:=i) (q:=A1.length - 1) (by omega) (by omega)))
    have cross2:∀x,x∈B1->∀y,y∈A2->lt y x=false:=by
      intro x hx y hy
      have n1:0<B1.length:=List.length_pos_of_mem hx
      have n2:0<A2.length:=List.length_pos_of_mem hy
      have hq:=hf (by omega) (by omega)
      have e1:A[s - a]? = some (A2[0]'(by omega)):=by
        rw[hAs,List.getElem?_append,if_neg (by omega),List.getElem?_eq_getElem (by omega)]
        congr 2;omega
      have e2:B[mid+m - 1 - s - m]? = some (B1[B1.length - 1]'(by omega)):=by
        rw[hBs,List.getElem?_append,if_pos (by omega),List.getElem?_eq_getElem (by omega)]
        congr 2;omega
      simp only[t,e1,e2,Bool.not_eq_false'] at hq
      obtain⟨i,hi,rfl⟩:=List.getElem_of_mem hx
      obtain⟨j,hj,rfl⟩:=List.getElem_of_mem hy
      exact o.asymm (o.lt_le (o.le_lt (sb1.le o (p:=i) (q:=B1.length - 1) (by omega) (by omega)) hq) (sa2.le o (p:=0) (q:=j) (by omega) hj))
    have ltot:P.length+A1.length+B1.length+A2.length+B2.length+S.length<400000000:=by omega
    -- the two merges
    have tail:∀y:List α,y=P++A1++B1++A2++B2++S->∃C,(if decide ((a:Int)<(s:Nat))=true then (if decide (((s:Nat):Int)<(mid:Int))=true then (R a (s:Nat) mid y).bind fun z=>if z.length=y.length then
            (if decide ((mid:Int)<((mid+m - s:Nat):Int))=true then if decide (((mid+m - s:Nat):Int)<(b:Int))=true then (R mid ((mid+m - s:Nat):Int) b z).bind fun u=>if u.length=z.length then some u else none else some z else some z) else none
            else (if decide ((mid:Int)<((mid+m - s:Nat):Int))=true then if decide (((mid+m - s:Nat):Int)<(b:Int))=true then (R mid ((mid+m - s:Nat):Int) b y).bind fun u=>if u.length=y.length then some u else none else some y else some y))
            else (if decide ((mid:Int)<((mid+m - s:Nat):Int))=true then if decide (((mid+m - s:Nat):Int)<(b:Int))=true then (R mid ((mid+m - s:Nat):Int) b y).bind fun u=>if u.length=y.length then some u else none else some y else some y))=some (P++C++S)/\Srt lt C/\C.Perm (A++B):=by
      intro y hy
      obtain⟨C1,c1,c2,c3⟩:=hR.tail (l:=y) (P:=P) (A:=A1) (B:=B1) (S:=A2++B2++S) (p:=a) (q:=s) (r:=mid) (by rw[hy];simp) ha (by omega) (by omega) sa1 sb1 (by omega) (by simp;omega)
        (fun y=>if decide ((mid:Int)<((mid+m - s:Nat):Int))=true then if decide (((mid+m - s:Nat):Int)<(b:Int))=true then (R mid ((mid+m - s:Nat):Int) b y).bind fun u=>if u.length=y.length then some u else none else some y else some y)
      rw[c1]
      have lc:=c3.length_eq
      simp at lc
      obtain⟨C2,d1,d2,d3⟩:=hR.tail (l:=P++C1++(A2++B2++S)) (P:=P++C1) (A:=A2) (B:=B2) (S:=S) (p:=mid) (q:=mid+m - s) (r:=b) (by simp) (by simp;omega) (by simp;omega) (by simp;omega) sa2 sb2 (by omega) (by simp;omega) some
      rw[d1]
      refine⟨C1++C2,by simp,Srt.app.2 ⟨c2,d2,fun x hx z hz=>?_⟩,?_⟩
      · have hx:=c3.mem_iff.1 hx
        have hz:=d3.mem_iff.1 hz
        rcases List.mem_append.1 hx with hx|hx<;>rcases List.mem_append.1 hz with hz|hz
        · exact sa3 x hx z hz
        · exact cross1 x hx z hz
        · exact cross2 x hx z hz
        · exact sb3 x hx z hz
      · refine(c3.append d3).trans ?_
        rw[hAs,hBs]
        have:(A1++B1++(A2++B2)).Perm (A1++A2++(B1++B2)):=by
          have h:=((List.perm_append_comm (l₁:=B1) (l₂:=A2)).append_left A1).append_right B2
          simpa using h
        exact this
    by_cases q1:s<m
    · rw[if_t (by omega)]
      by_cases q2:m<mid+m - s
      · rw[if_t (by omega)]
        have hrot:=rotG_eq F (P++A1) A2 B1 (B2++S) (by intro e;rw[e] at la;simp at la;omega) (by intro e;rw[e] at lb1;simp at lb1;omega) (by simp;omega) (by omega)
        have e1:(P++A1).length=s:=by simp;omega
        have e2:s+A2.length=m:=by omega
        have e3:m+B1.length=mid+m - s:=by omega
        rw[e1,e2,e3] at hrot
        have e4:P++A++B++S=P++A1++A2++B1++(B2++S):=by rw[hAs,hBs];simp
        rw[e4,hrot,Option.bind_some,if_pos (by simp;omega)]
        exact tail _ (by simp)
      · rw[if_f (by omega)]
        have:B1=[]:=List.length_eq_zero_iff.1 (by omega)
        exact tail _ (by rw[hAs,hBs,this];simp)
    · rw[if_f (by omega)]
      have:A2=[]:=List.length_eq_zero_iff.1 (by omega)
      exact tail _ (by rw[hAs,hBs,this];simp)
  by_cases hgt:m>mid
  · rw[if_t (by omega),w64s (by omega) (by omega)]
    obtain⟨s,s1,s2,s3,s4,s5⟩:=search (mid+m - b) mid _ (by omega) (by omega) (by omega) (by omega) (by omega)
    rw[s3]
    exact rest s (by omega) (by omega) (by omega) (by omega) (fun p h1 h2 h3 h4=>s4 p (by omega) h2) (fun h1 h2=>s5 s (Nat.le_refl _) (by omega)) _ rfl
  · rw[if_f (by omega)]
    obtain⟨s,s1,s2,s3,s4,s5⟩:=search a m _ (by omega) (by omega) (by omega) (by omega) (by omega)
    rw[s3]
    exact rest s (by omega) (by omega) (by omega) (by omega) (fun p h1 h2 h3 h4=>s4 p (by omega) h2) (fun h1 h2=>s5 s (Nat.le_refl _) (by omega)) _ rfl
theorem symG_eq(o:Ord c lt):∀F:Nat,Merges lt (symG c F) ((F - 10) / 2)
 |0=>fun P A B S _ _ _ _ h _=>by omega
 |F+1=>fun P A B S hA hB hA0 hB0 hn hl=>by
  rw[symG]
  exact symG_B_eq o F ((F - 10) / 2) (symG c F) (symG_eq o F) P A B S hA hB hA0 hB0 (by omega) hl (by omega)
inductive Bl(lt:α->α->Bool)(n:Nat):List α->Prop
 |last {Q:List α} (h:Q.length<=n) (s:Srt lt Q):Bl lt n Q
 |cons {A Q:List α} (h:A.length=n) (s:Srt lt A) (r:Bl lt n Q):Bl lt n (A++Q)
theorem Bl.sorted{n:Nat}{Q:List α}(h:Bl lt n Q)(hl:Q.length<=n):Srt lt Q:=by
 cases h with
 |last _ s=>exact s
 | @cons A Q h s r=>
  have:Q=[]:=List.length_eq_zero_iff.1 (by simp at hl;omega)
  subst this;simpa using s
theorem Bl.head{n:Nat}{Q:List α}(h:Bl lt n Q)(hl:n<=Q.length):∃A R,Q=A++R/\A.length=n/\Srt lt A/\Bl lt n R:=by
 cases h with
 |last h s=>exact⟨Q,[],by simp,by omega,s,.last (by simp) List.Pairwise.nil⟩
 |cons h s r=>exact⟨_,_,rfl,h,s,r⟩
theorem stbG_L1_eq(o:Ord c lt)(F n:Nat)(hn:n<300000000)(hF:n+10<F)(K:Int->List α->Option (List α)):∀(f:Nat) (P Q:List α),P.length+Q.length=n->Q.length<f->
  ∃(a:Nat) (P' Q':List α),stbG_L1 c F n K f (P.length:Nat) ((P.length+20:Nat):Int) (P++Q)=K (a:Nat) (P++P'++Q')/\P.length+P'.length=a/\Q'.length<20/\(P'++Q').Perm Q/\∀R,R.length<=20->Srt lt R->Bl lt 20 (P'++R)
 |0,P,Q,_,h=>by omega
 |f+1,P,Q,hl,hf=>by
  rw[stbG_L1]
  by_cases hlt:P.length+20<=n
  ·rw[if_t (by omega)]
   obtain⟨A,R,rfl,hA⟩:∃A R,Q=A++R/\A.length=20:=⟨Q.take 20,Q.drop 20,(List.take_append_drop _ _).symm,by rw[List.length_take];omega⟩
   simp only[List.length_append] at hl hf
   obtain⟨A',h1,h2,h3⟩:=insG_eq o F P A R (by simp;omega) (by omega)
   rw[hA] at h1
   rw[<-List.append_assoc,h1,Option.bind_some,if_pos (by have:=h3.length_eq;simp;omega),show w64 (((P.length+20:Nat):Int)+20)=((P.length+20+20:Nat):Int) from w64a (b:=20) (by omega)]
   have hA':A'.length=20:=by rw[h3.length_eq,hA]
   have e1:P.length+20=(P++A').length:=by simp;omega
   rw[e1]
   obtain⟨a,P',Q',g1,g2,g3,g4,g5⟩:=stbG_L1_eq o F n hn hF K f (P++A') R (by simp;omega) (by omega)
   refine⟨a,A'++P',Q',by rw[g1];simp,by simp at g2 ⊢;omega,g3,?_,fun R' hR hs=>?_⟩
   ·rw[List.append_assoc];exact h3.append g4
   ·rw[List.append_assoc];exact .cons hA' h2 (g5 R' hR hs)
  ·rw[if_f (by omega)]
   exact⟨P.length,[],Q,by simp,by simp,by omega,by simp,fun R hR hs=>by simpa using Bl.last hR hs⟩
theorem stbG_L3_eq(o:Ord c lt)(F n bs:Nat)(hbs:0<bs)(hn:n+4*bs<300000000)(hF:2*n+40<F)(K:Int->List α->Option (List α)):∀(f:Nat) (P Q:List α),P.length+Q.length=n->Q.length<f->Bl lt bs Q->
  ∃(a:Nat) (P' Q':List α),stbG_L3 c F n (bs:Nat) K f (P.length:Nat) ((P.length+2*bs:Nat):Int) (P++Q)=K (a:Nat) (P++P'++Q')/\P.length+P'.length=a/\Q'.length<2*bs/\Bl lt bs Q'/\(P'++Q').Perm Q/\∀R,R.length<=2*bs->Srt lt R->Bl lt (2*bs) (P'++R)
 |0,P,Q,_,h,_=>by omega
 |f+1,P,Q,hl,hf,hb=>by
  rw[stbG_L3]
  by_cases hlt:P.length+2*bs<=n
  ·rw[if_t (by omega)]
   obtain⟨A,Q1,rfl,hA,sA,hb1⟩:=hb.head (by omega)
   simp only[List.length_append] at hl hf
   obtain⟨B,R,rfl,hB,sB,hb2⟩:=hb1.head (by omega)
   simp only[List.length_append] at hl hf
   obtain⟨C,h1,h2,h3⟩:=symG_eq o F P A B R sA sB (by intro e;subst e;simp at hA;omega) (by intro e;subst e;simp at hB;omega) (by omega) (by simp;omega)
   have hC:C.length=2*bs:=by rw[h3.length_eq];simp;omega
   have e0:P.length+A.length+B.length=P.length+2*bs:=by omega
   rw[e0,hA] at h1
   have e1:P++(A++(B++R))=P++A++B++R:=by simp
   have w2:w64 (2*(bs:Int))=((2*bs:Nat):Int):=by rw[w64_id (by omega) (by omega)];omega
   rw[e1,w64a (by omega),h1,Option.bind_some,if_pos (by simp;omega),w2,w64a (by omega)]
   have e2:P.length+2*bs=(P++C).length:=by simp;omega
   rw[e2]
   obtain⟨a,P',Q',g1,g2,g3,g4,g5,g6⟩:=stbG_L3_eq o F n bs hbs hn hF K f (P++C) R (by simp;omega) (by omega) hb2
   refine⟨a,C++P',Q',by rw[g1];simp,by simp at g2 ⊢;omega,g3,g4,?_,fun R' hR hs=>?_⟩
   ·rw[List.append_assoc]
    have:=h3.append g5
    simpa using this
   ·rw[List.append_assoc];exact .cons hC h2 (g6 R' hR hs)
  ·rw[if_f (by omega)]
   exact⟨P.length,[],Q,by simp,by simp,by omega,hb,by simp,fun R hR hs=>by simpa using Bl.last hR hs⟩
theorem stbG_L2_eq(o:Ord c lt)(F n:Nat)(hn:n<50000000)(hF:2*n+40<F):∀(f bs:Nat) (Q:List α),0<bs->Q.length=n->Bl lt bs Q->n - bs<f->bs<n+n+50->∃R,stbG_L2 c F n f (bs:Nat) Q=some R/\Srt lt R/\R.Perm Q
 |0,bs,Q,_,hl,hb,h,_=>by omega
 |f+1,bs,Q,h0,hl,hb,hf,hbs=>by
  rw[stbG_L2]
  by_cases hlt:bs<n
  ·rw[if_t (by omega)]
   simp only[jn_def]
   have w2:w64 (2*(bs:Int))=((2*bs:Nat):Int):=by rw[w64_id (by omega) (by omega)];omega
   have w3:w64 ((bs:Int)*2)=((2*bs:Nat):Int):=by rw[w64_id (by omega) (by omega)];omega
   have key:=fun K=>stbG_L3_eq o F n bs h0 (by omega) hF K F [] Q (by simpa using hl) (by omega) hb
   simp only[List.length_nil,Nat.zero_add,List.nil_append] at key
   have key:=fun K=>(show ∃(a:Nat) (P' Q':List α),stbG_L3 c F n (bs:Nat) K F 0 ((2*bs:Nat):Int) Q=K (a:Nat) (P'++Q')/\P'.length=a/\Q'.length<2*bs/\Bl lt bs Q'/\(P'++Q').Perm Q/\∀R,R.length<=2*bs->Srt lt R->Bl lt (2*bs) (P'++R) from key K)
   rw[w2,w3]
   obtain⟨a,P',Q',g1,g2,g3,g4,g5,g6⟩:=key (fun(n70:Int) (l71:List α)=>if (decide ((w64 (n70+(bs:Int)))<(n:Int)))=true then (symG c F n70 (w64 (n70+(bs:Int))) (n:Int) l71).bind fun y85=>if y85.length=l71.length then stbG_L2 c F n f ((2*bs:Nat):Int) y85 else none
    else stbG_L2 c F n f ((2*bs:Nat):Int) l71)
   rw[g1]
   have gl:=g5.length_eq
   simp only[List.length_append] at gl
   rw[w64a (by omega)]
   by_cases hq:a+bs<n
   ·rw[if_t (by omega)]
    obtain⟨A,B,rfl,hA,sA,hB⟩:=g4.head (by omega)
    simp only[List.length_append] at gl g3
    have sB:Srt lt B:=hB.sorted (by omega)
    obtain⟨C,h1,h2,h3⟩:=symG_eq o F P' A B [] sA sB (by intro e;subst e;simp at hA;omega) (by intro e;subst e;simp at gl;omega) (by omega) (by simp;omega)
    have e0:P'.length+A.length+B.length=n:=by omega
    rw[e0,hA,g2] at h1
    simp only[List.append_nil] at h1
    rw[<-List.append_assoc,h1,Option.bind_some,if_pos (by have:=h3.length_eq;simp at this ⊢;omega)]
    have hC:C.length<2*bs:=by rw[h3.length_eq];simp;omega
    obtain⟨R,r1,r2,r3⟩:=stbG_L2_eq o F n hn hF f (2*bs) (P'++C) (by omega) (by have:=h3.length_eq;simp at this ⊢;omega) (g6 C (by omega) h2) (by omega) (by omega)
    exact⟨R,r1,r2,r3.trans ((h3.append_left P').trans g5)⟩
   ·rw[if_f (by omega)]
    obtain⟨R,r1,r2,r3⟩:=stbG_L2_eq o F n hn hF f (2*bs) (P'++Q') (by omega) (by simp;omega) (g6 Q' (by omega) (g4.sorted (by omega))) (by omega) (by omega)
    exact⟨R,r1,r2,r3.trans g5⟩
  ·rw[if_f (by omega)]
   exact⟨Q,rfl,hb.sorted (by omega),.refl _⟩
theorem stbG_eq(o:Ord c lt)(F:Nat)(xs:List α)(hn:xs.length<50000000)(hF:2*xs.length+100<F):∃R,stbG c F ((xs.length:Nat):Int) xs=some R/\Srt lt R/\R.Perm xs:=by
 unfold stbG
 simp only[jn_def]
 have key:=fun K=>stbG_L1_eq o F xs.length (by omega) (by omega) K F [] xs (by simp) (by omega)
 simp only[List.length_nil,Nat.zero_add,List.nil_append] at key
 have key:=fun K=>(show ∃(a:Nat) (P' Q':List α),stbG_L1 c F (xs.length:Nat) K F 0 20 xs=K (a:Nat) (P'++Q')/\P'.length=a/\Q'.length<20/\(P'++Q').Perm xs/\∀R,R.length<=20->Srt lt R->Bl lt 20 (P'++R) from key K)
 obtain⟨a,P',Q',g1,g2,g3,g4,g5⟩:=key (fun(n47:Int) (l48:List α)=>(insG c F n47 ((xs.length:Nat):Int) l48).bind fun y59=>if y59.length=l48.length then stbG_L2 c F ((xs.length:Nat):Int) F 20 y59 else none)
 rw[g1]
 have gl:=g4.length_eq
 simp only[List.length_append] at gl
 obtain⟨A',h1,h2,h3⟩:=insG_eq o F P' Q' [] (by simp;omega) (by omega)
 simp only[List.append_nil] at h1
 rw[<-g2,<-gl,h1,Option.bind_some,if_pos (by have:=h3.length_eq;simp;omega),gl]
 obtain⟨R,r1,r2,r3⟩:=stbG_L2_eq o F xs.length hn (by omega) F 20 (P'++A') (by omega) (by have:=h3.length_eq;simp;omega) (g5 A' (by have:=h3.length_eq;omega) h2) (by omega) (by omega)
 exact⟨R,r1,r2,r3.trans ((h3.append_left P').trans g4)⟩
end
end Go.Pv
