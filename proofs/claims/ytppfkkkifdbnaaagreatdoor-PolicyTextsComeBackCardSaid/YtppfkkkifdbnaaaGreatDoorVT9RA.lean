/- Part of the proof. -/
import Derived.Test.YtppfkkkifdbnaaaGreatDoorVT9PA
set_option linter.unusedSimpArgs false
set_option linter.unusedVariables false
namespace Go.Proofs.YtppfkkkifdbnaaaGreatDoor
open Go Go.Pv
set_option maxRecDepth 100000
def txC(a:List (List UInt8)):List (List UInt8)->Nat->Int
 |[],_=>0
 |x::l,n=>if (!valB x)=true then 2 else if (decide (0<n)&&(Op.bytesLess x (a.getD (n - 1) [])||x==a.getD (n - 1) []))=true then 10 else txC a l (n+1)
theorem idx_prev{α:Type}{a:List α}{n:Nat}{d:α}(h0:0<n)(h:n<=a.length)(hl:a.length<=maxLen):idx a (w64 ((n:Int) - 1))=some (a.getD (n - 1) d):=by
 have hm:maxLen=9223372036854775807:=by decide
 rw[hm] at hl
 rw[w64_id (by omega) (by omega),show((n:Int) - 1)=((n - 1:Nat):Int) by omega,idx_nat (by omega)]
 simp[List.getD,as8 (show n - 1<a.length by omega)]
theorem txL{g:List (List UInt8)->Int->Option Int}{k:Option Int}{a:List (List UInt8)}(hl:a.length<=maxLen)(h0:∀n,g [] n=k)
  (h1:∀x l (n:Nat),a[n]? = some x->x∈a->g (x::l) n=if (!valB x)=true then some 2 else if decide ((n:Int)>0)=true then (idx a (w64 ((n:Int) - 1))).bind fun y=>if (Op.bytesLess x y||x==y)=true then some 10 else g l (n+1) else g l (n+1)):
  ∀(l:List (List UInt8)) (n:Nat),a.drop n=l->g l n=if (txC a l n != 0)=true then some (txC a l n) else k
 |[],n,_=>by simp[h0,txC]
 |x::l,n,h=>by
  have hn:n<a.length:=by
   rcases Nat.lt_or_ge n a.length with h2|h2
   ·exact h2
   ·rw[ai9 h2] at h;cases h
  rw[bj8 hn] at h
  injection h with hx hd
  have e:((n:Int)+1)=((n+1:Nat):Int):=rfl
  rw[h1 x l n (by rw[as8 hn,hx]) (by rw[<-hx];exact av8 _),e,txL hl h0 h1 l (n+1) hd]
  rw[txC]
  cases valB x
  ·simp
  ·simp only[bk9,by9,if_false]
   by_cases h2:0<n
   ·rw[if_pos (decide_eq_true (by omega)),idx_prev (d:=[]) h2 (by omega) hl,bn9,decide_eq_true h2]
    simp only[Bool.true_and]
    cases (Op.bytesLess x (a.getD (n - 1) [])||x==a.getD (n - 1) [])<;>simp
   ·rw[decide_eq_false h2,if_neg (by simp;omega)];simp
def txF(a:List (List UInt8)):Int:=if a.length=0 then 13 else if 50<a.length then 3 else txC a a 0
def okX(x:TTest):Prop:=okS x.Name/\(∀s,s∈x.Texts->okS s)/\x.Texts.length<=maxLen/\x.Kids.length<=maxLen
theorem M91_eq(F:Nat)(a:List (List UInt8))(ha:∀s,s∈a->okS s)(hl:a.length<=maxLen):M91 F a=some (txF a):=by
 unfold M91 txF
 have h:=txL (g:=M91_L1 F a (some 0)) (k:=some 0) hl (fun n=>rfl) (fun x l n h1 h2=>by
  rw[M91_L1,M65_eq F x (ha x h2),bn9,jn_def]) a 0 rfl
 rw[show((0:Nat):Int)=0 from rfl] at h
 rw[jn_def,h]
 by_cases h1:a.length=0
 ·simp[h1]
 ·have h3:(((a.length:Nat):Int)==0)=false:=beq_false_of_ne (by omega)
  rw[h3,if_neg h1,if_neg (by simp:¬(false=true))]
  by_cases h2:50<a.length
  ·rw[if_pos h2,if_pos (decide_eq_true (by omega))]
  ·have h5:decide (((a.length:Nat):Int)>50)=false:=decide_eq_false (by omega)
   rw[if_neg h2,h5]
   by_cases h4:txC a a 0=0<;>simp[h4]
theorem M92_eq(F:Nat)(n:Int):M92 F n=some (decide (-1000000000000<=n)&&decide (n<=1000000000000)):=by
 unfold M92
 by_cases h : -1000000000000<=n
 ·simp[h,show n ≥ -1000000000000 from h]
 ·simp[h,show ¬n ≥ -1000000000000 from h]
theorem M74_eq(F:Nat)(a b c:Int):M74 F a b c=some (decide (a<b)||decide (a>c)):=by
 unfold M74
 by_cases h:a<b<;>simp[h]
theorem M130_L1_eq:∀(F:Nat) (x:TTest) (k:Option Int) (hx:okX x),M130_L1 F x k x.Texts ((0:Nat):Int)=if (txC x.Texts x.Texts 0 != 0)=true then some (txC x.Texts x.Texts 0) else k:=fun(F:Nat) (x:TTest) (k:Option Int) (hx:okX x)=>txL (g:=M130_L1 F x k) (k:=k) hx.2.2.1 (fun n=>rfl) (fun y l n h1 h2=>by
  have hn:n<x.Texts.length:=(aw8.1 h1).1
  have hi:idx x.Texts (n:Int)=some y:=by rw[idx_nat hn];exact(as8 hn).symm.trans h1
  show jn _ _=_
  rw[jn_def,M75_eq F y (hx.2.1 y h2),bn9,hi]
  cases valB y<;>rfl) x.Texts 0 rfl
theorem M130_L2_eq:∀(F:Nat) (x:TTest) (k:Option Int) (hx:okX x),M130_L2 F x k x.Texts ((0:Nat):Int)=if (txC x.Texts x.Texts 0 != 0)=true then some (txC x.Texts x.Texts 0) else k:=fun(F:Nat) (x:TTest) (k:Option Int) (hx:okX x)=>txL (g:=M130_L2 F x k) (k:=k) hx.2.2.1 (fun n=>rfl) (fun y l n h1 h2=>by
  have hn:n<x.Texts.length:=(aw8.1 h1).1
  have hi:idx x.Texts (n:Int)=some y:=by rw[idx_nat hn];exact(as8 hn).symm.trans h1
  show jn _ _=_
  rw[jn_def,M75_eq F y (hx.2.1 y h2),bn9,hi]
  cases valB y<;>rfl) x.Texts 0 rfl
def outN(n:Int):Bool:=decide (n < -1000000000000)||decide (n>1000000000000)
theorem M74_N(F:Nat)(n:Int):M74 F n (-1000000000000) 1000000000000=some (outN n):=M74_eq F n _ _
theorem M74_18(F:Nat)(n:Int):M74 F n 1 8=some (decide (n<1)||decide (n>8)):=M74_eq F n _ _
theorem M74_15(F:Nat)(n:Int):M74 F n 1 5=some (decide (n<1)||decide (n>5)):=M74_eq F n _ _
theorem M92_N(F:Nat)(n:Int):M92 F n=some (!outN n):=by
 rw[M92_eq,outN,Bool.not_or,<-decide_not,<-decide_not]
 exact congrArg some (congr (congrArg and (decide_eq_decide.2 (by omega))) (decide_eq_decide.2 (by omega)))
def nodeV(x:TTest):Int:=
 if x.Kind<1\/8<x.Kind then 7
 else if !(decide (2<=x.Kind)&&decide (x.Kind<=5))&&!(x.Name==[])||!(x.Kind==2||x.Kind==3)&&decide (0<x.Texts.length)||!(x.Kind==5)&&(x.Op != 0||x.N != 0) ||
  !(if x.Kind=6 then x.Kids.length==1 else if 7<=x.Kind then decide (2<=x.Kids.length) else x.Kids.length==0) then 2
 else if (decide (2<=x.Kind)&&decide (x.Kind<=5))&&!nameB x.Name then 8
 else if x.Kind=2\/x.Kind=3 then txF x.Texts
 else if x.Kind=5 then (if x.Op<1\/5<x.Op then 7 else if outN x.N=true then 9 else 0)
 else 0
theorem kid0{n:Nat}:(((n:Nat):Int)==0)=(n==0):=by
 by_cases h:n=0
 ·simp[h]
 ·rw[beq_false_of_ne h,beq_false_of_ne (by omega)]
theorem kid1{n:Nat}:(((n:Nat):Int)==1)=(n==1):=by
 by_cases h:n=1
 ·simp[h]
 ·rw[beq_false_of_ne h,beq_false_of_ne (by omega)]
theorem gt0{n:Nat}:decide (((n:Nat):Int)>0)=decide (0<n):=decide_eq_decide.2 (by omega)
theorem ge2{n:Nat}:decide (((n:Nat):Int)>=2)=decide (2<=n):=decide_eq_decide.2 (by omega)
theorem gt50{n:Nat}:decide (((n:Nat):Int)>50)=decide (50<n):=decide_eq_decide.2 (by omega)
noncomputable def usesA:Nat->Tpolicy_uses:=(M89 0).get rfl
theorem M89_eq(F:Nat):M89 F=some usesA:=rfl
theorem uses_1:usesA 1=⟨false,false,false,0⟩:=rfl
theorem uses_2:usesA 2=⟨true,true,false,0⟩:=rfl
theorem uses_3:usesA 3=⟨true,true,false,0⟩:=rfl
theorem uses_4:usesA 4=⟨true,false,false,0⟩:=rfl
theorem uses_5:usesA 5=⟨true,false,true,0⟩:=rfl
theorem uses_6:usesA 6=⟨false,false,false,1⟩:=rfl
theorem uses_7:usesA 7=⟨false,false,false,-1⟩:=rfl
theorem uses_8:usesA 8=⟨false,false,false,-1⟩:=rfl
def fm(u:Tpolicy_uses)(x:TTest):Bool:=(u.name||(x.Name==[]))&&(u.texts||!decide (0<x.Texts.length))&&(u.number||((x.Op==0)&&(x.N==0)))&&(if u.kids<0 then decide (2<=x.Kids.length) else (((x.Kids.length:Nat):Int)==u.kids))
theorem M90_eq(F:Nat)(x:TTest)(h:0<=x.Kind/\x.Kind.toNat<9):M90 F x=some (fm (usesA x.Kind.toNat) x):=by
 unfold M90 fm
 rw[M89_eq,bn9,if_pos h]
 generalize usesA x.Kind.toNat=u
 simp only[gt0,ge2]
 by_cases hk:u.kids<0
 ·simp only[if_pos hk,decide_eq_true hk]
  cases u.name<;>cases u.texts<;>cases u.number<;>by_cases a1:x.Name=[]<;>by_cases a2:0<x.Texts.length<;>by_cases a3:x.Op=0<;>by_cases a4:x.N=0<;>simp[a1,a2,a3,a4]
 ·simp only[if_neg hk,decide_eq_false hk]
  cases u.name<;>cases u.texts<;>cases u.number<;>by_cases a1:x.Name=[]<;>by_cases a2:0<x.Texts.length<;>by_cases a3:x.Op=0<;>by_cases a4:x.N=0<;>simp[a1,a2,a3,a4]
def nodeU(u:Tpolicy_uses)(x:TTest):Int:=if !fm u x then 2 else if u.name&&!nameB x.Name then 8 else if u.texts&&txF x.Texts != 0 then txF x.Texts else if u.number&&(decide (x.Op<1)||decide (x.Op>5)) then 7 else if u.number&&outN x.N then 9 else 0
theorem M61_B_u(F:Nat)(R:TTest->Option Int)(x:TTest)(hx:okX x)(h:1<=x.Kind/\x.Kind<=8):M61_B R F x=if (nodeU (usesA x.Kind.toNat) x != 0)=true then some (nodeU (usesA x.Kind.toNat) x) else M61_L1 R F (some 0) x.Kids:=by
 have h9:0<=x.Kind/\x.Kind.toNat<9:=by omega
 unfold M61_B nodeU
 rw[M90_eq F x h9,M89_eq,bn9,if_pos h9,bn9,M30_eq F x.Name hx.1,M91_eq F x.Texts hx.2.1 hx.2.2.1,M92_N,decide_eq_false (show ¬x.Kind<1 by omega),decide_eq_false (show ¬x.Kind>8 by omega)]
 simp only[jn_def,bn9]
 generalize usesA x.Kind.toNat=u
 generalize M61_L1 R F (some 0) x.Kids=L
 generalize fm u x=b0
 generalize nameB x.Name=b1
 generalize txF x.Texts=t1
 generalize outN x.N=b2
 generalize decide (x.Op<1)=b3
 generalize decide (x.Op>5)=b4
 by_cases h0:t1=0<;>cases b0<;>cases u.name<;>cases u.texts<;>cases u.number<;>cases b1<;>cases b2<;>cases b3<;>cases b4<;>simp[h0]
theorem M130_k1{F:Nat}{nm:List UInt8}{tx:List (List UInt8)}{op n:Int}{ks:List KRow}(hn:M71 F nm=some (nameB nm)):M130 F ⟨1,nm,tx,op,n,ks⟩=some (nodeV ⟨1,nm,tx,op,n,ks⟩):=by
 have e4:tx=[]<->tx.length=0:=as9.symm
 have e5:ks=[]<->ks.length=0:=as9.symm
 simp only[M130,M146,M74_18,M74_15,M74_N,jn_def,nodeV,gt0,gt50,kid0,hn]
 by_cases a1:nm=[]<;>by_cases a2:0<tx.length<;>by_cases a3:op=0<;>by_cases a4:n=0<;>by_cases a5:ks.length=0<;>simp[a1,a2,a3,a4,a5,e4,e5]
theorem nodeU_k1{nm:List UInt8}{tx:List (List UInt8)}{op n:Int}{ks:List KRow}:nodeU (usesA 1) ⟨1,nm,tx,op,n,ks⟩=nodeV ⟨1,nm,tx,op,n,ks⟩:=by
 have e5:ks=[]<->ks.length=0:=as9.symm
 rw[uses_1]
 simp only[nodeU,fm,nodeV,gt0,kid0]
 by_cases a1:nm=[]<;>by_cases a2:0<tx.length<;>by_cases a3:op=0<;>by_cases a4:n=0<;>by_cases a5:ks.length=0<;>simp[a1,a2,a3,a4,a5,e5,kid0]
theorem M130_k2{F:Nat}{nm:List UInt8}{tx:List (List UInt8)}{op n:Int}{ks:List KRow}(hn:M71 F nm=some (nameB nm))(h1:∀k,M130_L1 F ⟨2,nm,tx,op,n,ks⟩ k tx 0=if (txC tx tx 0 != 0)=true then some (txC tx tx 0) else k):M130 F ⟨2,nm,tx,op,n,ks⟩=some (nodeV ⟨2,nm,tx,op,n,ks⟩):=by
 have e4:tx=[]<->tx.length=0:=as9.symm
 have e5:ks=[]<->ks.length=0:=as9.symm
 simp only[M130,M146,M74_18,M74_15,M74_N,jn_def,nodeV,gt0,gt50,kid0,hn,h1,txF]
 by_cases a1:nameB nm=true<;>by_cases a2:tx.length=0<;>by_cases a3:50<tx.length<;>by_cases a4:op=0<;>by_cases a5:n=0<;>by_cases a6:ks.length=0<;>by_cases a7:txC tx tx 0=0<;>simp[a1,a2,a3,a4,a5,a6,a7,e4,e5]
theorem nodeU_k2{nm:List UInt8}{tx:List (List UInt8)}{op n:Int}{ks:List KRow}:nodeU (usesA 2) ⟨2,nm,tx,op,n,ks⟩=nodeV ⟨2,nm,tx,op,n,ks⟩:=by
 have e5:ks=[]<->ks.length=0:=as9.symm
 rw[uses_2]
 simp only[nodeU,fm,nodeV,gt0,kid0]
 by_cases a1:nameB nm=true<;>by_cases a2:op=0<;>by_cases a3:n=0<;>by_cases a4:ks.length=0<;>by_cases a5:txF tx=0<;>simp[a1,a2,a3,a4,a5,e5,kid0]
theorem M130_k3{F:Nat}{nm:List UInt8}{tx:List (List UInt8)}{op n:Int}{ks:List KRow}(hn:M71 F nm=some (nameB nm))(h1:∀k,M130_L2 F ⟨3,nm,tx,op,n,ks⟩ k tx 0=if (txC tx tx 0 != 0)=true then some (txC tx tx 0) else k):M130 F ⟨3,nm,tx,op,n,ks⟩=some (nodeV ⟨3,nm,tx,op,n,ks⟩):=by
 have e4:tx=[]<->tx.length=0:=as9.symm
 have e5:ks=[]<->ks.length=0:=as9.symm
 simp only[M130,M146,M74_18,M74_15,M74_N,jn_def,nodeV,gt0,gt50,kid0,hn,h1,txF]
 by_cases a1:nameB nm=true<;>by_cases a2:tx.length=0<;>by_cases a3:50<tx.length<;>by_cases a4:op=0<;>by_cases a5:n=0<;>by_cases a6:ks.length=0<;>by_cases a7:txC tx tx 0=0<;>simp[a1,a2,a3,a4,a5,a6,a7,e4,e5]
theorem nodeU_k3{nm:List UInt8}{tx:List (List UInt8)}{op n:Int}{ks:List KRow}:nodeU (usesA 3) ⟨3,nm,tx,op,n,ks⟩=nodeV ⟨3,nm,tx,op,n,ks⟩:=by
 have e5:ks=[]<->ks.length=0:=as9.symm
 rw[uses_3]
 simp only[nodeU,fm,nodeV,gt0,kid0]
 by_cases a1:nameB nm=true<;>by_cases a2:op=0<;>by_cases a3:n=0<;>by_cases a4:ks.length=0<;>by_cases a5:txF tx=0<;>simp[a1,a2,a3,a4,a5,e5,kid0]
theorem M130_k4{F:Nat}{nm:List UInt8}{tx:List (List UInt8)}{op n:Int}{ks:List KRow}(hn:M71 F nm=some (nameB nm)):M130 F ⟨4,nm,tx,op,n,ks⟩=some (nodeV ⟨4,nm,tx,op,n,ks⟩):=by
 have e4:tx=[]<->tx.length=0:=as9.symm
 have e5:ks=[]<->ks.length=0:=as9.symm
 simp only[M130,M146,M74_18,M74_15,M74_N,jn_def,nodeV,gt0,gt50,kid0,hn]
 by_cases a1:nameB nm=true<;>by_cases a2:0<tx.length<;>by_cases a3:op=0<;>by_cases a4:n=0<;>by_cases a5:ks.length=0<;>simp[a1,a2,a3,a4,a5,e4,e5]
theorem nodeU_k4{nm:List UInt8}{tx:List (List UInt8)}{op n:Int}{ks:List KRow}:nodeU (usesA 4) ⟨4,nm,tx,op,n,ks⟩=nodeV ⟨4,nm,tx,op,n,ks⟩:=by
 have e5:ks=[]<->ks.length=0:=as9.symm
 rw[uses_4]
 simp only[nodeU,fm,nodeV,gt0,kid0]
 by_cases a1:nameB nm=true<;>by_cases a2:0<tx.length<;>by_cases a3:op=0<;>by_cases a4:n=0<;>by_cases a5:ks.length=0<;>simp[a1,a2,a3,a4,a5,e5,kid0]
theorem M146_k5{F:Nat}{nm:List UInt8}{tx:List (List UInt8)}{op n:Int}{ks:List KRow}:M146 F ⟨5,nm,tx,op,n,ks⟩=some (if decide (0<tx.length)=true then 2 else if (ks.length==0)=true then 0 else 2):=by
 have e5:ks=[]<->ks.length=0:=as9.symm
 simp only[M146,M74_18,jn_def,gt0,kid0]
 by_cases a2:0<tx.length<;>by_cases a3:ks.length=0<;>simp[a2,a3,e5]
theorem M130_k5{F:Nat}{nm:List UInt8}{tx:List (List UInt8)}{op n:Int}{ks:List KRow}(hn:M71 F nm=some (nameB nm)):M130 F ⟨5,nm,tx,op,n,ks⟩=some (nodeV ⟨5,nm,tx,op,n,ks⟩):=by
 have hv:nodeV ⟨5,nm,tx,op,n,ks⟩=if (if decide (0<tx.length)=true then (2:Int) else if (ks.length==0)=true then 0 else 2)=2 then 2 else if nameB nm=false then 8 else if (decide (op<1)||decide (op>5))=true then 7 else if outN n=true then 9 else 0:=by
  simp only[nodeV]
  generalize outN n=c1
  by_cases a1:nameB nm=true<;>by_cases a2:0<tx.length<;>by_cases a3:ks.length=0<;>simp[a1,a2,a3]
 rw[hv]
 unfold M130
 rw[M146_k5,bn9]
 have hz:(if decide (0<tx.length)=true then (2:Int) else if (ks.length==0)=true then 0 else 2)=0\/(if decide (0<tx.length)=true then (2:Int) else if (ks.length==0)=true then 0 else 2)=2:=by
  split
  ·exact Or.inr rfl
  ·split
   ·exact Or.inl rfl
   ·exact Or.inr rfl
 generalize (if decide (0<tx.length)=true then (2:Int) else if (ks.length==0)=true then 0 else 2)=z at hz ⊢
 clear hv
 rcases hz with rfl|rfl
 ·rw[if_neg (show ¬((0:Int) != 0)=true by decide),if_neg (show ¬(0:Int)=2 by decide)]
  dsimp only
  rw[if_pos (show decide ((5:Int)>=2)=true from rfl),if_pos (show decide ((5:Int)<=5)=true from rfl),hn,bn9]
  cases nameB nm
  ·rfl
  ·rw[if_neg (show ¬(!true)=true by decide),if_neg (show ¬((5:Int)==2)=true by decide),if_neg (show ¬true=false by decide)]
   simp only[jn_def]
   rw[if_neg (show ¬((5:Int)==3)=true by decide),if_pos (show((5:Int)==5)=true from rfl),M74_15,bn9,M74_N,bn9]
   cases decide (op<1)||decide (op>5)
   ·cases outN n<;>rfl
   ·rfl
 ·rfl
theorem nodeU_k5{nm:List UInt8}{tx:List (List UInt8)}{op n:Int}{ks:List KRow}:nodeU (usesA 5) ⟨5,nm,tx,op,n,ks⟩=nodeV ⟨5,nm,tx,op,n,ks⟩:=by
 have e5:ks=[]<->ks.length=0:=as9.symm
 rw[uses_5]
 simp only[nodeU,fm,nodeV,gt0,kid0]
 generalize outN n=c1
 by_cases a1:nameB nm=true<;>by_cases a2:0<tx.length<;>by_cases a3:ks.length=0<;>by_cases a4:op<1<;>by_cases a5:5<op<;>cases c1<;>simp[a1,a2,a3,a4,a5,e5,kid0]
theorem M130_k6{F:Nat}{nm:List UInt8}{tx:List (List UInt8)}{op n:Int}{ks:List KRow}(hn:M71 F nm=some (nameB nm)):M130 F ⟨6,nm,tx,op,n,ks⟩=some (nodeV ⟨6,nm,tx,op,n,ks⟩):=by
 have e4:tx=[]<->tx.length=0:=as9.symm
 have e5:ks=[]<->ks.length=0:=as9.symm
 simp only[M130,M146,M74_18,M74_15,M74_N,jn_def,nodeV,gt0,gt50,kid1,hn]
 by_cases a1:nm=[]<;>by_cases a2:0<tx.length<;>by_cases a3:op=0<;>by_cases a4:n=0<;>by_cases a5:ks.length=1<;>simp[a1,a2,a3,a4,a5,e4,e5]
theorem nodeU_k6{nm:List UInt8}{tx:List (List UInt8)}{op n:Int}{ks:List KRow}:nodeU (usesA 6) ⟨6,nm,tx,op,n,ks⟩=nodeV ⟨6,nm,tx,op,n,ks⟩:=by
 have e5:ks=[]<->ks.length=0:=as9.symm
 rw[uses_6]
 simp only[nodeU,fm,nodeV,gt0,kid1]
 by_cases a1:nm=[]<;>by_cases a2:0<tx.length<;>by_cases a3:op=0<;>by_cases a4:n=0<;>by_cases a5:ks.length=1<;>simp[a1,a2,a3,a4,a5,e5,kid1]
theorem M130_k7{F:Nat}{nm:List UInt8}{tx:List (List UInt8)}{op n:Int}{ks:List KRow}(hn:M71 F nm=some (nameB nm)):M130 F ⟨7,nm,tx,op,n,ks⟩=some (nodeV ⟨7,nm,tx,op,n,ks⟩):=by
 have e4:tx=[]<->tx.length=0:=as9.symm
 have e5:ks=[]<->ks.length=0:=as9.symm
 simp only[M130,M146,M74_18,M74_15,M74_N,jn_def,nodeV,gt0,gt50,kid0,ge2,hn]
 by_cases a1:nm=[]<;>by_cases a2:0<tx.length<;>by_cases a3:op=0<;>by_cases a4:n=0<;>by_cases a5:2<=ks.length<;>simp[a1,a2,a3,a4,a5,e4,e5]
theorem nodeU_k7{nm:List UInt8}{tx:List (List UInt8)}{op n:Int}{ks:List KRow}:nodeU (usesA 7) ⟨7,nm,tx,op,n,ks⟩=nodeV ⟨7,nm,tx,op,n,ks⟩:=by
 have e5:ks=[]<->ks.length=0:=as9.symm
 rw[uses_7]
 simp only[nodeU,fm,nodeV,gt0,kid0,ge2]
 by_cases a1:nm=[]<;>by_cases a2:0<tx.length<;>by_cases a3:op=0<;>by_cases a4:n=0<;>by_cases a5:2<=ks.length<;>simp[a1,a2,a3,a4,a5,e5,kid0,ge2]
theorem M130_k8{F:Nat}{nm:List UInt8}{tx:List (List UInt8)}{op n:Int}{ks:List KRow}(hn:M71 F nm=some (nameB nm)):M130 F ⟨8,nm,tx,op,n,ks⟩=some (nodeV ⟨8,nm,tx,op,n,ks⟩):=by
 have e4:tx=[]<->tx.length=0:=as9.symm
 have e5:ks=[]<->ks.length=0:=as9.symm
 simp only[M130,M146,M74_18,M74_15,M74_N,jn_def,nodeV,gt0,gt50,kid0,ge2,hn]
 by_cases a1:nm=[]<;>by_cases a2:0<tx.length<;>by_cases a3:op=0<;>by_cases a4:n=0<;>by_cases a5:2<=ks.length<;>simp[a1,a2,a3,a4,a5,e4,e5]
theorem nodeU_k8{nm:List UInt8}{tx:List (List UInt8)}{op n:Int}{ks:List KRow}:nodeU (usesA 8) ⟨8,nm,tx,op,n,ks⟩=nodeV ⟨8,nm,tx,op,n,ks⟩:=by
 have e5:ks=[]<->ks.length=0:=as9.symm
 rw[uses_8]
 simp only[nodeU,fm,nodeV,gt0,kid0,ge2]
 by_cases a1:nm=[]<;>by_cases a2:0<tx.length<;>by_cases a3:op=0<;>by_cases a4:n=0<;>by_cases a5:2<=ks.length<;>simp[a1,a2,a3,a4,a5,e5,kid0,ge2]
theorem M130_eq(F:Nat)(x:TTest)(hx:okX x):M130 F x=some (nodeV x):=by
 have h1:∀k,_:=fun k=>M130_L1_eq F x k hx
 have h2:∀k,_:=fun k=>M130_L2_eq F x k hx
 rw[show((0:Nat):Int)=0 from rfl] at h1 h2
 have hn:=M71_eq F x.Name hx.1
 obtain⟨kd,nm,tx,op,n,ks⟩:=x
 by_cases hk:kd<1\/8<kd
 ·have:(decide (kd<1)||decide (kd>8))=true:=by simp;omega
  simp only[M130,M146,M74_18,M74_15,M74_N,this,bn9,if_true,nodeV,if_pos hk];rfl
 ·have hk':kd=1\/kd=2\/kd=3\/kd=4\/kd=5\/kd=6\/kd=7\/kd=8:=by omega
  rcases hk' with rfl|rfl|rfl|rfl|rfl|rfl|rfl|rfl
  ·exact M130_k1 hn
  ·exact M130_k2 hn h1
  ·exact M130_k3 hn h2
  ·exact M130_k4 hn
  ·exact M130_k5 hn
  ·exact M130_k6 hn
  ·exact M130_k7 hn
  ·exact M130_k8 hn
theorem nodeU_eq(x:TTest)(h:1<=x.Kind/\x.Kind<=8):nodeU (usesA x.Kind.toNat) x=nodeV x:=by
 obtain⟨kd,nm,tx,op,n,ks⟩:=x
 simp only at h
 have hk':kd=1\/kd=2\/kd=3\/kd=4\/kd=5\/kd=6\/kd=7\/kd=8:=by omega
 rcases hk' with rfl|rfl|rfl|rfl|rfl|rfl|rfl|rfl
 ·exact nodeU_k1
 ·exact nodeU_k2
 ·exact nodeU_k3
 ·exact nodeU_k4
 ·exact nodeU_k5
 ·exact nodeU_k6
 ·exact nodeU_k7
 ·exact nodeU_k8
theorem M61_B_eq(F:Nat)(R:TTest->Option Int)(x:TTest)(hx:okX x):M61_B R F x=if (nodeV x != 0)=true then some (nodeV x) else M61_L1 R F (some 0) x.Kids:=by
 by_cases h:1<=x.Kind/\x.Kind<=8
 ·rw[M61_B_u F R x hx h,nodeU_eq x h]
 ·have h7:nodeV x=7:=by unfold nodeV;rw[if_pos (by omega)]
  rw[h7]
  unfold M61_B
  by_cases h1:x.Kind<1
  ·rw[if_pos (decide_eq_true h1)];rfl
  ·rw[if_neg (by simp[h1]),if_pos (decide_eq_true (by omega))];rfl
end Go.Proofs.YtppfkkkifdbnaaaGreatDoor
namespace Go.Proofs.YtppfkkkifdbnaaaGreatDoor
open Go Go.Pv
set_option maxRecDepth 100000
mutual
theorem Tr.ind{P:Tr->Prop}(h:∀a b c d e ks,(∀t,t∈ks->P t)->P (.mk a b c d e ks)):∀t:Tr,P t
 | .mk a b c d e ks=>h a b c d e ks (Tr.inds h ks)
theorem Tr.inds{P:Tr->Prop}(h:∀a b c d e ks,(∀t,t∈ks->P t)->P (.mk a b c d e ks)):∀(ks:List Tr) (t:Tr),t∈ks->P t
 |[],_,hu=>absurd hu (by simp)
 |t::r,u,hu=>by
  rcases am8.1 hu with e|hu
  ·rw[e];exact Tr.ind h t
  ·exact Tr.inds h r u hu
end
noncomputable section
mutual
def Tr.fu:Tr->Nat
 | .mk a b c d e ks=>c.length+ks.length+2+Tr.fus ks
def Tr.fus:List Tr->Nat
 |[]=>0
 |t::r=>t.fu+Tr.fus r
end
mutual
def Tr.cnt:Tr->Nat
 | .mk a b c d e ks=>1+Tr.cnts ks
def Tr.cnts:List Tr->Nat
 |[]=>0
 |t::r=>t.cnt+Tr.cnts r
end
mutual
def Tr.dep:Tr->Nat
 | .mk a b c d e ks=>1+Tr.deps ks
def Tr.deps:List Tr->Nat
 |[]=>0
 |t::r=>max t.dep (Tr.deps r)
end
mutual
def Tr.flt:Tr->Int
 | .mk a b c d e ks=>if nodeV ⟨a,b,c,d,e,Tr.toKs ks⟩=0 then Tr.flts ks else nodeV ⟨a,b,c,d,e,Tr.toKs ks⟩
def Tr.flts:List Tr->Int
 |[]=>0
 |t::r=>if t.flt=0 then Tr.flts r else t.flt
end
def Tr.toK(t:Tr):KRow:=⟨encTTest t.toT,imms_encTTest _,one_encTTest _⟩
end
theorem Tr.dec(t:Tr):kdec encTTest t.toK=some t.toT:=kdec_toK t
theorem Tr.toKs_map:∀ks:List Tr,Tr.toKs ks=ks.map Tr.toK
 |[]=>by simp[Tr.toKs]
 |t::r=>by rw[Tr.toKs,Tr.toKs_map r];rfl
theorem idx_toKs{ks:List Tr}{n:Nat}(h:n<ks.length):idx (Tr.toKs ks) (n:Int)=some (ks[n].toK):=by
 rw[Tr.toKs_map,idx_nat (by simpa using h)];simp
theorem Tr.fu_mem:∀{ks:List Tr} {t:Tr},t∈ks->t.fu<=Tr.fus ks
 |u::r,t,h=>by
  rw[Tr.fus]
  rcases am8.1 h with e|h
  ·subst e;omega
  ·have:=Tr.fu_mem h;omega
theorem Tr.oks_mem:∀{ks:List Tr} {t:Tr},Tr.oks ks->t∈ks->t.ok
 |u::r,t,ho,h=>by
  rw[Tr.oks] at ho
  rcases am8.1 h with e|h
  ·subst e;exact ho.1
  ·exact Tr.oks_mem ho.2 h
theorem maxLen_eq:maxLen=9223372036854775807:=by decide
theorem Tr.okX{a b c d e ks}(h:(Tr.mk a b c d e ks).ok):okX ⟨a,b,c,d,e,Tr.toKs ks⟩:=by
 rw[Tr.ok] at h
 exact⟨h.2.1,h.2.2.1.1,h.2.2.1.2,by rw[show(Tr.toKs ks).length=ks.length from Tr.toKs_len ks];exact h.2.2.2.2.2.2⟩
theorem Tr.okks{a b c d e ks}(h:(Tr.mk a b c d e ks).ok):Tr.oks ks/\ks.length<=9223372036854775807:=by
 rw[Tr.ok,maxLen_eq] at h
 exact⟨h.2.2.2.2.2.1,h.2.2.2.2.2.2⟩
theorem Tr.cnt_mem:∀{ks:List Tr} {t:Tr},t∈ks->t.cnt<=Tr.cnts ks
 |u::r,t,h=>by
  rw[Tr.cnts]
  rcases am8.1 h with e|h
  ·subst e;omega
  ·have:=Tr.cnt_mem h;omega
theorem cnt_pos(t:Tr):1<=t.cnt:=by cases t;rw[Tr.cnt];omega
theorem dep_pos(t:Tr):1<=t.dep:=by cases t;rw[Tr.dep];omega
theorem len_cnts:∀ks:List Tr,ks.length<=Tr.cnts ks
 |[]=>by simp[Tr.cnts]
 |t::r=>by rw[Tr.cnts];have:=len_cnts r;have:=cnt_pos t;simp;omega
theorem deps_le:∀(ks:List Tr),(∀t,t∈ks->t.dep<=t.cnt)->Tr.deps ks<=Tr.cnts ks
 |[],_=>by simp[Tr.deps]
 |t::r,h=>by
  rw[Tr.deps,Tr.cnts]
  have h1:=h t (by simp)
  have h2:=deps_le r fun u hu=>h u (by simp[hu])
  omega
theorem dep_le:∀t:Tr,t.dep<=t.cnt:=Tr.ind fun a b c d e ks ih=>by rw[Tr.dep,Tr.cnt];have:=deps_le ks ih;omega
theorem M61_tr:∀t:Tr,t.ok->∀F,t.fu<=F->M61 F t.toT=some t.flt:=Tr.ind fun a b c d e ks ih ok F hF=>by
 rw[Tr.fu] at hF
 obtain⟨F,rfl⟩:∃G,F=G+1:=⟨F - 1,by omega⟩
 show M61_B (M61 F) F (Tr.mk a b c d e ks).toT=_
 rw[Tr.toT,M61_B_eq F _ _ (Tr.okX ok),Tr.flt]
 have hl:∀l:List Tr,(∀t,t∈l->t∈ks)->M61_L1 (M61 F) F (some 0) (Tr.toKs l)=some (Tr.flts l):=by
  intro l
  induction l with
  |nil=>intro _;simp only[Tr.toKs,M61_L1,Tr.flts]
  |cons t r ihr=>
   intro hm
   have ht:=hm t (by simp)
   rw[Tr.toKs_map,bd8,M61_L1,Tr.dec,bn9,ih t ht (Tr.oks_mem (Tr.okks ok).1 ht) F (by have:=Tr.fu_mem ht;omega),bn9,<-Tr.toKs_map,ihr fun u hu=>hm u (by simp[hu]),Tr.flts]
   by_cases h0:t.flt=0<;>simp[h0]
 rw[hl ks fun _ h=>h]
 by_cases h0:nodeV ⟨a,b,c,d,e,Tr.toKs ks⟩=0
 ·simp[h0]
 ·rw[if_neg h0,if_pos (by simp[h0])]
theorem M107_tr:∀t:Tr,t.ok->∀F,t.fu<=F->M107 F t.toT=some t.flt:=Tr.ind fun a b c d e ks ih ok F hF=>by
 rw[Tr.fu] at hF
 obtain⟨F,rfl⟩:∃G,F=G+1:=⟨F - 1,by omega⟩
 show M107_B (M107 F) F (Tr.mk a b c d e ks).toT=_
 rw[Tr.toT,M107_B,M130_eq F _ (Tr.okX ok),bn9,Tr.flt,jn_def]
 have hk:=(Tr.okks ok).2
 have hlen:(TTest.mk a b c d e (Tr.toKs ks)).Kids.length=ks.length:=Tr.toKs_len ks
 rw[hlen,if_pos (show((ks.length:Nat):Int)<=9223372036854775807 by omega),show(((ks.length:Nat):Int)).toNat=ks.length by omega]
 have hl:∀m n:Nat,n+m=ks.length->M107_L1 (M107 F) F ⟨a,b,c,d,e,Tr.toKs ks⟩ (some 0) m (n:Int)=some (Tr.flts (ks.drop n)):=by
  intro m
  induction m with
  |zero=>intro n h;rw[M107_L1,ai9 (by omega),Tr.flts]
  |succ m ihm=>
   intro n h
   have hn:n<ks.length:=by omega
   have ht:ks[n]∈ks:=av8 _
   rw[M107_L1,idx_toKs hn,bn9,Tr.dec,bn9,ih _ ht (Tr.oks_mem (Tr.okks ok).1 ht) F (by have:=Tr.fu_mem ht;omega),bn9,show((n:Int)+1)=((n+1:Nat):Int) from rfl,ihm (n+1) (by omega),bj8 hn,Tr.flts]
   by_cases h0:ks[n].flt=0<;>simp[h0]
 have:=hl ks.length 0 (by omega)
 rw[show((0:Nat):Int)=0 from rfl,bi8] at this
 rw[this]
 by_cases h0:nodeV ⟨a,b,c,d,e,Tr.toKs ks⟩=0
 ·simp[h0]
 ·rw[if_neg h0,if_pos (by simp[h0])]
theorem M105_tr:∀t:Tr,t.ok->∀F,t.fu<=F->∀most:Nat,most<=60->M105 F t.toT (most:Int)=some ((min t.cnt (most+1):Nat):Int):=Tr.ind fun a b c d e ks ih ok F hF most hmost=>by
 rw[Tr.fu] at hF
 obtain⟨F,rfl⟩:∃G,F=G+1:=⟨F - 1,by omega⟩
 show M105_B (M105 F) F (Tr.mk a b c d e ks).toT (most:Int)=_
 rw[Tr.toT,M105_B,jn_def,Tr.cnt]
 have hk:=(Tr.okks ok).2
 have hl:∀fuel n j:Nat,ks.length<fuel+j->j<=ks.length->n<=most+1->M105_L1 (M105 F) F ⟨a,b,c,d,e,Tr.toKs ks⟩ (most:Int) (fun n4=>some n4) fuel (n:Int) (j:Int)=some ((min (n+Tr.cnts (ks.drop j)) (most+1):Nat):Int):=by
  intro fuel
  induction fuel with
  |zero=>intro n j h1 h2;omega
  |succ fuel ihf=>
   intro n j h1 h2 h3
   rw[M105_L1]
   have hlen:(TTest.mk a b c d e (Tr.toKs ks)).Kids.length=ks.length:=Tr.toKs_len ks
   rw[hlen]
   by_cases hj:j<ks.length
   ·rw[if_pos (decide_eq_true (by omega))]
    by_cases hn:n<=most
    ·have ht:ks[j]∈ks:=av8 _
     rw[if_pos (decide_eq_true (by omega)),idx_toKs hj,bn9,Tr.dec,bn9,w64_id (by omega) (by omega),show((most:Int) - (n:Int))=((most - n:Nat):Int) by omega,
      ih _ ht (Tr.oks_mem (Tr.okks ok).1 ht) F (by have:=Tr.fu_mem ht;omega) (most - n) (by omega),bn9,w64_id (by omega) (by omega),w64_id (by omega) (by omega)]
     have:=ihf (n+min ks[j].cnt (most - n+1)) (j+1) (by omega) (by omega) (by omega)
     rw[show((n:Int)+((min ks[j].cnt (most - n+1):Nat):Int))=((n+min ks[j].cnt (most - n+1):Nat):Int) by omega,show((j:Int)+1)=((j+1:Nat):Int) from rfl,this,bj8 hj,Tr.cnts]
     congr 2
     omega
    ·rw[if_neg (by simp;omega)]
     have:n=most+1:=by omega
     subst this
     congr 2
     omega
   ·rw[if_neg (by simp;omega),ai9 (by omega),Tr.cnts]
    congr 2
    omega
 have:=hl F 1 0 (by omega) (by omega) (by omega)
 rw[bi8] at this
 exact this
theorem M106_tr:∀t:Tr,t.ok->∀F,t.fu<=F->t.cnt<=60->M106 F t.toT=some (t.dep:Int):=Tr.ind fun a b c d e ks ih ok F hF hc=>by
 rw[Tr.fu] at hF
 rw[Tr.cnt] at hc
 obtain⟨F,rfl⟩:∃G,F=G+1:=⟨F - 1,by omega⟩
 show M106_B (M106 F) F (Tr.mk a b c d e ks).toT=_
 have hlen:(TTest.mk a b c d e (Tr.toKs ks)).Kids.length=ks.length:=Tr.toKs_len ks
 have hk:=(Tr.okks ok).2
 rw[Tr.toT,M106_B,jn_def,hlen,if_pos (by omega),show(((ks.length:Nat):Int)).toNat=ks.length by omega,Tr.dep]
 have hl:∀m n q:Nat,n+m=ks.length->M106_L1 (M106 F) F ⟨a,b,c,d,e,Tr.toKs ks⟩ (fun n3=>some (w64 (n3+1))) m (n:Int) (q:Int)=some (w64 (((max q (Tr.deps (ks.drop n)):Nat):Int)+1)):=by
  intro m
  induction m with
  |zero=>intro n q h;rw[M106_L1,ai9 (by omega),Tr.deps,Nat.max_zero]
  |succ m ihm=>
   intro n q h
   have hn:n<ks.length:=by omega
   have ht:ks[n]∈ks:=av8 _
   rw[M106_L1,idx_toKs hn,bn9,Tr.dec,bn9,ih _ ht (Tr.oks_mem (Tr.okks ok).1 ht) F (by have:=Tr.fu_mem ht;omega) (by have:=Tr.cnt_mem ht;omega),bn9]
   rw[show(if (ks[n].dep:Int)>(q:Int) then (ks[n].dep:Int) else (q:Int))=((max q ks[n].dep:Nat):Int) by split<;>omega,show((n:Int)+1)=((n+1:Nat):Int) from rfl,ihm (n+1) _ (by omega),bj8 hn,Tr.deps,Nat.max_assoc]
 have:=hl ks.length 0 0 (by omega)
 rw[bi8] at this
 rw[show((0:Nat):Int)=0 from rfl] at this
 rw[this]
 have h1:=deps_le ks fun t _=>dep_le t
 rw[w64_id (by omega) (by omega)]
 congr 1
 omega
theorem M60_tr:∀t:Tr,t.ok->∀F,t.fu<=F->∀lvl:Int,1<=lvl->lvl<=13->∃a b:Int,M60 F t.toT lvl=some (a,b)/\1<=a/\a<=61/\lvl<=b/\b<=13/\(12<b<->12<lvl+t.dep - 1)/\(b<=12->a=min (t.cnt:Int) 61):=Tr.ind fun a b c d e ks ih ok F hF lvl h1 h13=>by
 rw[Tr.fu] at hF
 obtain⟨F,rfl⟩:∃G,F=G+1:=⟨F - 1,by omega⟩
 show ∃p q:Int,M60_B (M60 F) F (Tr.mk a b c d e ks).toT lvl=some (p,q)/\_
 rw[Tr.toT,M60_B,Tr.dep,Tr.cnt]
 by_cases hq:lvl>12
 ·rw[if_pos (decide_eq_true hq)]
  exact⟨1,lvl,rfl,by omega,by omega,by omega,by omega,by omega,by omega⟩
 ·rw[if_neg (by simpa using hq),jn_def]
  have hl:∀l:List Tr,(∀t,t∈l->t∈ks)->∀n q:Int,1<=n->n<=61->lvl<=q->q<=13->∃p r:Int,M60_L1 (M60 F) F lvl (fun n5 n6=>some (n5,n6)) (Tr.toKs l) n q=some (p,r)/\1<=p/\p<=61/\lvl<=r/\r<=13/\(12<r<->12<q\/12<lvl+Tr.deps l)/\(r<=12->p=min (n+(Tr.cnts l:Nat)) 61):=by
   intro l
   induction l with
   |nil=>
    intro _ n q g1 g2 g3 g4
    refine⟨n,q,by simp only[Tr.toKs,M60_L1],g1,g2,g3,g4,?_,?_⟩
    ·rw[Tr.deps];omega
    ·rw[Tr.cnts];omega
   |cons t r ihr=>
    intro hm n q g1 g2 g3 g4
    have ht:=hm t (by simp)
    obtain⟨p',q',e1,e2,e3,e4,e5,e6,e7⟩:=ih t ht (Tr.oks_mem (Tr.okks ok).1 ht) F (by have:=Tr.fu_mem ht;omega) (lvl+1) (by omega) (by omega)
    rw[Tr.toKs_map,bd8,M60_L1,Tr.dec,bn9,w64_id (by omega) (by omega),e1,bn9,<-Tr.toKs_map]
    dsimp only
    rw[w64_id (by omega) (by omega)]
    obtain⟨p,s,f1,f2,f3,f4,f5,f6,f7⟩:=ihr (fun u hu=>hm u (by simp[hu])) (if 61<n+p' then 61 else n+p') (if q'>q then q' else q) (by split<;>omega) (by split<;>omega) (by split<;>omega) (by split<;>omega)
    refine⟨p,s,f1,f2,f3,f4,f5,?_,?_⟩
    ·rw[f6,Tr.deps]
     split<;>omega
    ·intro hs
     have h7:=f7 hs
     have hq':¬12<s:=by omega
     rw[f6] at hq'
     have:q'<=12:=by split at hq'<;>omega
     have h8:=e7 this
     rw[h7,Tr.cnts]
     split<;>omega
  obtain⟨p,r,e1,e2,e3,e4,e5,e6,e7⟩:=hl ks (fun _ h=>h) 1 lvl (by omega) (by omega) (by omega) (by omega)
  refine⟨p,r,e1,e2,e3,e4,e5,?_,?_⟩
  ·rw[e6];omega
  ·intro h;rw[e7 h];omega
noncomputable def vT(t:Tr):Int:=if 60<t.cnt\/12<t.dep then 3 else t.flt
theorem M31_tr(t:Tr)(ok:t.ok)(F:Nat)(hF:t.fu<=F):M31 F t.toT=some (vT t):=by
 obtain⟨a,b,e1,e2,e3,e4,e5,e6,e7⟩:=M60_tr t ok F hF 1 (by omega) (by omega)
 unfold M31
 rw[e1,bn9]
 dsimp only
 unfold vT
 by_cases hb:12<b
 ·have hd:=e6.1 hb
  rw[if_pos (show 60<t.cnt\/12<t.dep by omega),if_pos (show decide (b>12)=true from decide_eq_true (by omega))]
  by_cases ha:a>60<;>simp[ha]
 ·have h7:=e7 (by omega)
  have hd:¬(12<t.dep):=fun h=>hb (e6.2 (by omega))
  by_cases hc:60<t.cnt
  ·rw[if_pos (decide_eq_true (by omega)),if_pos (Or.inl hc)]
  ·rw[if_neg (by simp;omega),if_neg (by simp;omega),if_neg (by omega),M61_tr t ok F hF];rfl
theorem M73_tr(t:Tr)(ok:t.ok)(F:Nat)(hF:t.fu<=F):M73 F t.toT=some (vT t):=by
 have h:=M105_tr t ok F hF 60 (by omega)
 rw[show((60:Nat):Int)=60 from rfl] at h
 unfold M73 vT
 rw[h,bn9]
 by_cases hc:60<t.cnt
 ·rw[if_pos (decide_eq_true (by omega)),if_pos (Or.inl hc)]
 ·rw[if_neg (by simp;omega),M106_tr t ok F hF (by omega),bn9]
  by_cases hd:12<t.dep
  ·rw[if_pos (decide_eq_true (by omega)),if_pos (Or.inr hd)]
  ·rw[if_neg (by simp;omega),if_neg (by omega),M107_tr t ok F hF];rfl
end Go.Proofs.YtppfkkkifdbnaaaGreatDoor
namespace Go.Proofs.YtppfkkkifdbnaaaGreatDoor
open Go Go.Pv
set_option maxRecDepth 100000
open Classical in
noncomputable def trE(x:TTest):Tr:=if h:∃t:Tr,x=t.toT/\t.ok then h.choose else .mk 0 [] [] 0 0 []
theorem trE_spec{x:TTest}(h:okTTest x):x=(trE x).toT/\(trE x).ok:=by
 have h':∃t:Tr,x=t.toT/\t.ok:=h
 unfold trE
 rw[dif_pos h']
 exact h'.choose_spec
noncomputable def vTT(x:TTest):Int:=vT (trE x)
theorem M31_tt{x:TTest}(h:okTTest x){F:Nat}(hF:(trE x).fu<=F):M31 F x=some (vTT x):=by
 obtain⟨h1,h2⟩:=trE_spec h
 have:=M31_tr (trE x) h2 F hF
 rwa [<-h1] at this
theorem M73_tt{x:TTest}(h:okTTest x){F:Nat}(hF:(trE x).fu<=F):M73 F x=some (vTT x):=by
 obtain⟨h1,h2⟩:=trE_spec h
 have:=M73_tr (trE x) h2 F hF
 rwa [<-h1] at this
theorem anyGe{p:Bool}{n:Nat}:(if p=true then some ((n:Nat):Int) else some (-1)).bind (fun y3:Int=>some (decide (y3>=0)))=some p:=by
 cases p
 ·rfl
 ·simp
noncomputable def fuP(p:TPolicy):Nat:=(p.Rules.map fun r=>(trE r.When).fu).sum+(p.Waivers.map fun w=>w.Subject.length+2).sum
theorem le_sum{α:Type}{g:α->Nat}:∀{l:List α} {x:α},x∈l->g x<=(l.map g).sum
 |y::l,x,h=>by
  rcases am8.1 h with e|h
  ·subst e;simp
  ·have:=le_sum (g:=g) h;simp;omega
noncomputable def rlF(seen:List (List UInt8)):List TPolicyRule->Int
 |[]=>0
 |r::l=>if nameB r.Name=false then 8 else if (seen.any fun n=>n==r.Name)=true then 5 else if nameB r.About=false then 8 else if vTT r.When=0 then (if (decide (r.Level<1)||decide (r.Level>4))=true then 7 else rlF (seen++[r.Name]) l) else vTT r.When
def starB(s:List UInt8):Bool:=s.dropLast.any fun c=>c==42
def wvF(p:TPolicy)(w:TWaiver):Int:=
 if (p.Rules.any fun r=>r.Name==w.Rule)=false then 4 else if valB w.Subject=false then 2 else if starB w.Subject=true then 2
 else if (decide (w.From<0)||decide (w.From>w.To)||decide (w.To>1000000))=true then 9 else if nameB w.Owner=false then 8 else if (decide (w.Level<1)||decide (w.Level>3))=true then 7 else 0
def wvsF(p:TPolicy):List TWaiver->Int
 |[]=>0
 |w::l=>if wvF p w=0 then wvsF p l else wvF p w
noncomputable def vP(p:TPolicy):Int:=if 100<p.Rules.length then 3 else if 200<p.Waivers.length then 3 else if rlF [] p.Rules=0 then wvsF p p.Waivers else rlF [] p.Rules
theorem M72_eq(F:Nat)(l:List TPolicyRule)(nm:List UInt8):∃y,M72 F l nm=some y/\(decide (y>=0)=l.any fun r=>r.Name==nm)/\(decide (y<0) = !l.any fun r=>r.Name==nm):=by
 unfold M72
 have h:=idxL (g:=M72_L1 F nm (some (-1))) (fun r=>r.Name==nm) (fun _=>rfl) (fun x l n=>by rw[M72_L1]) l 0
 rw[show((0:Nat):Int)=0 from rfl] at h
 rw[jn_def,h]
 cases ha:l.any fun r=>r.Name==nm
 ·exact⟨_,rfl,rfl,rfl⟩
 ·refine⟨_,if_pos rfl,?_,?_⟩
  ·exact decide_eq_true (by omega)
  ·exact decide_eq_false (by omega)
theorem M63_eq(F:Nat)(l:List TPolicyRule)(a:List UInt8)(b:List UInt8)(c d:Int)(e:List UInt8)(g:Int):M63 F l a b c d e g=some (l.any fun r=>r.Name==a):=by
 unfold M63 M94
 have h:=idxL (g:=M94_L1 F a b c d e g (some (-1))) (fun r:TPolicyRule=>r.Name==a) (fun _=>rfl) (fun x l n=>by rw[M94_L1];rfl) l 0
 rw[show((0:Nat):Int)=0 from rfl] at h
 rw[jn_def,h]
 exact anyGe
theorem ixb:∀s:List UInt8,(Lib.indexByte s 42 = -1/\(s.any fun c=>c==42)=false)\/(0<=Lib.indexByte s 42/\(s.any fun c=>c==42)=true)
 |[]=>Or.inl ⟨rfl,rfl⟩
 |c::s=>by
  rw[Lib.indexByte,bs8]
  cases hc:c==42
  ·simp only[by9,if_false,bt8]
   rcases ixb s with h|h
   ·rw[h.1];exact Or.inl ⟨rfl,h.2⟩
   ·right
    rw[beq_false_of_ne (show Lib.indexByte s 42 ≠ -1 by omega)]
    exact⟨by simp;omega,h.2⟩
  ·right;simp
theorem star_eq:∀s:List UInt8,(decide (0<=Lib.indexByte s 42)&&decide (Lib.indexByte s 42<(s.length:Int) - 1))=starB s
 |[]=>rfl
 |[c]=>by
  unfold starB
  simp only[List.dropLast_singleton,List.any_nil,List.length_singleton]
  by_cases h:0<=Lib.indexByte [c] 42
  ·rw[decide_eq_false (show ¬Lib.indexByte [c] 42<((1:Nat):Int) - 1 by omega),Bool.and_false]
  ·rw[decide_eq_false h,bv8]
 |c::d::s=>by
  have ih:=star_eq (d::s)
  unfold starB at ih ⊢
  rw[List.dropLast_cons_cons,bs8,<-ih,Lib.indexByte]
  cases hc:c==42
  ·simp only[by9,if_false,bt8]
   rcases ixb (d::s) with h|h
   ·rw[h.1];rfl
   ·rw[beq_false_of_ne (show Lib.indexByte (d::s) 42 ≠ -1 by omega)]
    simp only[by9,if_false]
    rw[decide_eq_true h.1,decide_eq_true (show 0<=Lib.indexByte (d::s) 42+1 by omega)]
    congr 1
    exact decide_eq_decide.2 (by simp only[bl8];omega)
  ·rw[if_pos rfl,decide_eq_true (by simp),decide_eq_true (by simp only[bl8];omega)];rfl
theorem M32_eq(F:Nat)(p:TPolicy)(w:TWaiver)(hw:okTWaiver w):M32 F p w=some (wvF p w):=by
 have h1:okS w.Subject:=hw.2.1
 have h2:okS w.Owner:=hw.2.2.2.2.1
 unfold M32 wvF
 rw[M62,bn9,M63_eq,bn9,jn_def,M65_eq F _ h1,M30_eq F _ h2]
 have hs:=star_eq w.Subject
 unfold okS at h1
 rw[show(42:Int).toNat.toUInt8=42 from rfl,w64_id (by omega) (by omega)]
 rw[<-hs]
 simp only[bn9,ge_iff_le]
 generalize decide (Lib.indexByte w.Subject 42<(w.Subject.length:Int) - 1)=b1
 generalize decide (0<=Lib.indexByte w.Subject 42)=b2
 generalize (p.Rules.any fun r=>r.Name==w.Rule)=b3
 generalize valB w.Subject=b4
 generalize decide (w.From<0)=b5
 generalize decide (w.From>w.To)=b6
 generalize decide (w.To>1000000)=b7
 generalize nameB w.Owner=b8
 generalize decide (w.Level<1)=b9
 generalize decide (w.Level>3)=b10
 cases b3<;>cases b4
 all_goals try rfl
 cases b2<;>cases b1<;>cases b5<;>cases b6<;>cases b7<;>cases b8<;>cases b9<;>cases b10<;>rfl
theorem M42_L1_eq(F:Nat)(w:TWaiver)(k:Option Int)(hl:w.Subject.length<=140737488351232):∀(fuel j:Nat),w.Subject.length<fuel+j->j<=w.Subject.length->M42_L1 F w k fuel (j:Int)=if ((w.Subject.drop j).dropLast.any fun c=>c==42)=true then some 2 else k
 |0,j,h1,h2=>by omega
 |fuel+1,j,h1,h2=>by
  rw[M42_L1,w64_id (by omega) (by omega)]
  by_cases hj:j+1<w.Subject.length
  ·rw[if_pos (decide_eq_true (by omega)),idx_nat (by omega),bn9,show((j:Int)+1)=((j+1:Nat):Int) from rfl,M42_L1_eq F w k hl fuel (j+1) (by omega) (by omega),bj8 (show j<w.Subject.length by omega),bj8 hj,List.dropLast_cons_cons,bs8]
   have:(((w.Subject[j]'(by omega)).toNat:Int)==42)=(w.Subject[j]'(by omega)==42):=by
    by_cases h:w.Subject[j]'(by omega)=42
    ·rw[h];rfl
    ·have:((w.Subject[j]'(by omega)).toNat:Int)≠42:=fun e=>h (UInt8.toNat_inj.1 (by show _=42;omega))
     rw[beq_false_of_ne h,beq_false_of_ne this]
   rw[this]
   cases (w.Subject[j]'(by omega)==42)<;>simp
  ·rw[if_neg (by simp;omega)]
   have:((w.Subject.drop j).dropLast)=[]:=by
    apply List.eq_nil_of_length_eq_zero
    rw[List.length_dropLast,aj9];omega
   rw[this];rfl
theorem M42_eq(F:Nat)(p:TPolicy)(w:TWaiver)(hw:okTWaiver w)(hF:w.Subject.length<F):M42 F p w=some (wvF p w):=by
 have h1:okS w.Subject:=hw.2.1
 have h2:okS w.Owner:=hw.2.2.2.2.1
 obtain⟨y,e1,e2,e3⟩:=M72_eq F p.Rules w.Rule
 unfold M42 wvF
 rw[e1,bn9,e3,jn_def,M75_eq F _ h1,M71_eq F _ h2,M74_eq,M74_eq]
 have hl:=fun k=>M42_L1_eq F w k h1 F 0 (by omega) (by omega)
 simp only[show((0:Nat):Int)=0 from rfl,bi8] at hl
 rw[hl]
 unfold starB
 simp only[bn9]
 generalize (w.Subject.dropLast.any fun c=>c==42)=b1
 generalize (p.Rules.any fun r=>r.Name==w.Rule)=b3
 generalize valB w.Subject=b4
 generalize decide (w.From<0)=b5
 generalize decide (w.From>w.To)=b6
 generalize decide (w.To>1000000)=b7
 generalize nameB w.Owner=b8
 generalize decide (w.Level<1)=b9
 generalize decide (w.Level>3)=b10
 cases b3<;>cases b4
 all_goals try rfl
 cases b1<;>cases b5<;>cases b6<;>cases b7<;>cases b8<;>cases b9<;>cases b10<;>rfl
theorem M9_L2_eq(F:Nat)(p:TPolicy)(hp:okTPolicy p):∀l:List TWaiver,(∀w,w∈l->w∈p.Waivers)->M9_L2 F p (some 0) l=some (wvsF p l)
 |[],_=>rfl
 |w::l,h=>by
  rw[M9_L2,M32_eq F p w (hp.2.1.1 w (h w (by simp))),bn9,M9_L2_eq F p hp l fun u hu=>h u (by simp[hu]),wvsF]
  by_cases h0:wvF p w=0<;>simp[h0]
theorem M17_L2_eq(F:Nat)(p:TPolicy)(hp:okTPolicy p)(hF:fuP p<=F):∀m n:Nat,n+m=p.Waivers.length->M17_L2 F p (some 0) m (n:Int)=some (wvsF p (p.Waivers.drop n))
 |0,n,h=>by rw[M17_L2,ai9 (by omega),wvsF]
 |m+1,n,h=>by
  have hn:n<p.Waivers.length:=by omega
  have hm:p.Waivers[n]∈p.Waivers:=av8 _
  rw[M17_L2,idx_nat hn,bn9,M42_eq F p _ (hp.2.1.1 _ hm) (by have:=le_sum (g:=fun w:TWaiver=>w.Subject.length+2) hm;unfold fuP at hF;omega),bn9,show((n:Int)+1)=((n+1:Nat):Int) from rfl,M17_L2_eq F p hp hF m (n+1) (by omega),bj8 hn,wvsF]
  by_cases h0:wvF p p.Waivers[n]=0<;>simp[h0]
theorem M9_L1_eq(F:Nat)(p:TPolicy)(hp:okTPolicy p)(hF:fuP p<=F)(k:Option Int):∀(l:List TPolicyRule),(∀r,r∈l->r∈p.Rules)->∀(m:List (List UInt8×Bool)) (seen:List (List UInt8)),(∀nm,(mget m nm).getD false=seen.any fun n=>n==nm)->M9_L1 F k l m=if rlF seen l=0 then k else some (rlF seen l)
 |[],_,m,seen,_=>by simp[M9_L1,rlF]
 |r::l,h,m,seen,hm=>by
  have hr:=h r (by simp)
  have hok:=hp.1.1 r hr
  rw[M9_L1,M30_eq F _ hok.1,bn9,hm,M30_eq F _ hok.2.1,M31_tt hok.2.2.1 (by have:=le_sum (g:=fun r:TPolicyRule=>(trE r.When).fu) hr;unfold fuP at hF;omega),bn9,bn9,
   M9_L1_eq F p hp hF k l (fun u hu=>h u (by simp[hu])) (mput m r.Name true) (seen++[r.Name]) (fun nm=>by
    rw[mget_mput,List.any_append,<-hm]
    by_cases e:r.Name=nm
    ·rw[if_pos e];simp[e]
    ·rw[if_neg e];simp[e]),rlF]
  cases nameB r.Name
  ·rfl
  ·cases (seen.any fun n=>n==r.Name)
   ·cases nameB r.About
    ·rfl
    ·by_cases h0:vTT r.When=0
     ·simp only[h0]
      cases decide (r.Level<1)<;>cases decide (r.Level>4)<;>rfl
     ·simp[h0]
   ·rfl
theorem M41_eq(F:Nat)(p:TPolicy)(hp:okTPolicy p)(hF:fuP p<=F)(n:Nat)(hn:n<p.Rules.length):M41 F p (n:Int)=some (
  if nameB p.Rules[n].Name=false then 8 else if (((p.Rules.take n).map (·.Name)).any fun m=>m==p.Rules[n].Name)=true then 5 else if nameB p.Rules[n].About=false then 8 else if vTT p.Rules[n].When=0 then (if (decide (p.Rules[n].Level<1)||decide (p.Rules[n].Level>4))=true then 7 else 0) else vTT p.Rules[n].When):=by
 have hr:p.Rules[n]∈p.Rules:=av8 _
 have hok:=hp.1.1 _ hr
 obtain⟨y,e1,e2,e3⟩:=M72_eq F (p.Rules.take n) p.Rules[n].Name
 unfold M41
 rw[idx_nat hn,bn9,M71_eq F _ hok.1,bn9,if_pos (show 0<=(n:Int)/\(n:Int).toNat<=p.Rules.length by omega),show((n:Int)).toNat=n by omega,e1,bn9,e2,M71_eq F _ hok.2.1,M73_tt hok.2.2.1 (by have:=le_sum (g:=fun r:TPolicyRule=>(trE r.When).fu) hr;unfold fuP at hF;omega),M74_eq,List.any_map]
 simp only[bn9]
 show _=some (if nameB p.Rules[n].Name=false then 8 else if ((p.Rules.take n).any fun r=>r.Name==p.Rules[n].Name)=true then 5 else _)
 cases nameB p.Rules[n].Name
 ·rfl
 ·cases ((p.Rules.take n).any fun r=>r.Name==p.Rules[n].Name)
  ·cases nameB p.Rules[n].About
   ·rfl
   ·by_cases h0:vTT p.Rules[n].When=0
    ·simp only[h0]
     cases decide (p.Rules[n].Level<1)<;>cases decide (p.Rules[n].Level>4)<;>rfl
    ·simp[h0]
  ·rfl
theorem M17_L1_eq(F:Nat)(p:TPolicy)(hp:okTPolicy p)(hF:fuP p<=F)(k:Option Int):∀m n:Nat,n+m=p.Rules.length->M17_L1 F p k m (n:Int)=if rlF ((p.Rules.take n).map (·.Name)) (p.Rules.drop n)=0 then k else some (rlF ((p.Rules.take n).map (·.Name)) (p.Rules.drop n))
 |0,n,h=>by rw[M17_L1,ai9 (by omega),rlF];rfl
 |m+1,n,h=>by
  have hn:n<p.Rules.length:=by omega
  rw[M17_L1,M41_eq F p hp hF n hn,bn9,show((n:Int)+1)=((n+1:Nat):Int) from rfl,M17_L1_eq F p hp hF k m (n+1) (by omega),bj8 hn,rlF,List.take_succ_eq_append_getElem hn,ca8,bd8,ak8]
  cases nameB p.Rules[n].Name
  ·rfl
  ·cases (((p.Rules.take n).map (·.Name)).any fun m=>m==p.Rules[n].Name)
   ·cases nameB p.Rules[n].About
    ·rfl
    ·by_cases h0:vTT p.Rules[n].When=0
     ·simp only[h0]
      cases decide (p.Rules[n].Level<1)<;>cases decide (p.Rules[n].Level>4)<;>rfl
     ·simp[h0]
   ·rfl
theorem M9_eq(p:TPolicy)(hp:okTPolicy p)(F:Nat)(hF:fuP p<=F):M9 F p=some (vP p):=by
 unfold M9 vP
 simp only[jn_def]
 rw[M9_L1_eq F p hp hF _ p.Rules (fun _ h=>h) [] [] (fun nm=>rfl),M9_L2_eq F p hp _ fun _ h=>h]
 by_cases h1:100<p.Rules.length
 ·rw[if_pos (decide_eq_true (by omega)),if_pos h1]
 ·rw[if_neg (by simp;omega),if_neg h1]
  by_cases h2:200<p.Waivers.length
  ·rw[if_pos (decide_eq_true (by omega)),if_pos h2]
  ·rw[if_neg (by simp;omega),if_neg h2]
   split<;>rfl
theorem M17_eq(p:TPolicy)(hp:okTPolicy p)(F:Nat)(hF:fuP p<=F):M17 F p=some (vP p):=by
 have hm1:=hp.1.2
 have hm2:=hp.2.1.2
 rw[maxLen_eq] at hm1 hm2
 unfold M17 vP
 simp only[jn_def]
 have e1:=M17_L1_eq F p hp hF (some (wvsF p p.Waivers)) p.Rules.length 0 (by omega)
 have e2:=M17_L2_eq F p hp hF p.Waivers.length 0 (by omega)
 simp only[show((0:Nat):Int)=0 from rfl,bi8,List.take_zero,ak8] at e1 e2
 rw[show(((p.Waivers.length:Nat):Int)).toNat=p.Waivers.length by omega,show(((p.Rules.length:Nat):Int)).toNat=p.Rules.length by omega,e2,if_pos (show((p.Waivers.length:Nat):Int)<=9223372036854775807 by omega),e1]
 by_cases h1:100<p.Rules.length
 ·rw[if_pos (decide_eq_true (by omega)),if_pos h1]
 ·rw[if_neg (by simp;omega),if_neg h1]
  by_cases h2:200<p.Waivers.length
  ·rw[if_pos (decide_eq_true (by omega)),if_pos h2]
  ·rw[if_neg (by simp;omega),if_neg h2]
   split<;>rfl
end Go.Proofs.YtppfkkkifdbnaaaGreatDoor
namespace Go.Pv
open Go
theorem decDigits_dig(u:Nat):∀x,x∈Lib.decDigits u->48<=x.toNat/\x.toNat<=57:=by
 induction u using Nat.strongRecOn with
 |_ u ih=>
  intro x hx
  by_cases h:u<10
  ·rw[Lib.decDigits,dif_pos h] at hx
   rw[List.mem_singleton] at hx;subst hx
   rw[UInt8.toNat_ofNat'];omega
  ·rw[Lib.decDigits,dif_neg h] at hx
   rcases bo9.1 hx with hx|hx
   ·exact ih (u / 10) (by omega) x hx
   ·rw[List.mem_singleton] at hx;subst hx
    rw[UInt8.toNat_ofNat'];omega
theorem decFrom_app:∀(l:List UInt8) (acc n:Nat) (b:UInt8) (d:Nat),Lib.decFrom acc l=some n->Lib.digitVal b=some d->Lib.decFrom acc (l++[b])=some (n*10+d)
 |[],acc,n,b,d,h,hb=>by simp[Lib.decFrom] at h;subst h;simp[Lib.decFrom,hb]
 |x::l,acc,n,b,d,h,hb=>by
  rw[List.cons_append]
  unfold Lib.decFrom at h ⊢
  cases hx:Lib.digitVal x with
  |none=>rw[hx] at h;cases h
  |some e=>rw[hx] at h;exact decFrom_app l _ n b d h hb
theorem decFrom_digits(u:Nat):Lib.decFrom 0 (Lib.decDigits u)=some u:=by
 induction u using Nat.strongRecOn with
 |_ u ih=>
  have hd:∀v,v<10->Lib.digitVal (UInt8.ofNat (48+v))=some v:=by
   intro v hv
   have:(UInt8.ofNat (48+v)).toNat=48+v:=by rw[UInt8.toNat_ofNat'];omega
   unfold Lib.digitVal
   rw[this,if_pos (by omega)];congr 1;omega
  by_cases h:u<10
  ·rw[Lib.decDigits,dif_pos h]
   unfold Lib.decFrom
   rw[hd u h]
   simp only[Lib.decFrom,Nat.zero_mul,br9]
  ·rw[Lib.decDigits,dif_neg h,decFrom_app _ 0 (u / 10) _ (u % 10) (ih (u / 10) (by omega)) (hd _ (aj8 _ (by decide)))]
   congr 1;omega
theorem decDigits_ne(u:Nat):Lib.decDigits u≠[]:=by
 intro h
 have:=Lib.decDigits_length u
 rw[h] at this
 have:=Lib.nDigits_pos u
 simp at *;omega
theorem nDigits_lt{k:Nat}:∀{u:Nat},u<10 ^ (k+1)->Lib.nDigits u<=k+1:=by
 induction k with
 |zero=>intro u h;rw[Lib.nDigits_small (by simpa using h)];exact ab8 _
 |succ k ih=>
  intro u h
  by_cases h1:u<10
  ·rw[Lib.nDigits_small h1];omega
  ·rw[Lib.nDigits_big h1]
   have:=ih (u:=u / 10) (by rw[Nat.pow_succ] at h;omega)
   omega
theorem decDigits_head{u:Nat}(h:10<=u):(Lib.decDigits u).head? ≠ some 48:=by
 induction u using Nat.strongRecOn with
 |_ u ih=>
  rw[Lib.decDigits,dif_neg (by omega)]
  by_cases h1:u / 10<10
  ·rw[Lib.decDigits,dif_pos h1]
   simp only[List.singleton_append,List.head?_cons,ne_eq,aq8]
   intro e
   have:=congrArg UInt8.toNat e
   rw[UInt8.toNat_ofNat'] at this
   simp at this;omega
  ·have:=ih (u / 10) (by omega) (by omega)
   rw[List.head?_append]
   cases hd:(Lib.decDigits (u / 10)).head? with
   |none=>exact absurd (List.head?_eq_none_iff.1 hd) (decDigits_ne _)
   |some x=>rw[hd] at this;simpa using this
end Go.Pv
namespace Go.Proofs.YtppfkkkifdbnaaaGreatDoor
open Go Go.Pv
set_option maxRecDepth 100000
def blk(c:UInt8):Bool:=c==32||c==10
abbrev Tok:=Int×List UInt8
def signs:List (List UInt8):=[[60,61],[62,61],[60],[62],[61],[40],[41],[44]]
inductive Rds:List UInt8->List Tok->Prop
 |nil {u:List UInt8} (h:u.all blk=true):Rds u []
 |run {b r u:List UInt8} {ts:List Tok} (hb:b.all blk=true) (hr:r≠[]) (hrr:r.all run=true) (hu:∀c v,u=c::v->run c=false) (h:Rds u ts):Rds (b++(r++u)) ((1,r)::ts)
 |txt {b v u:List UInt8} {ts:List Tok} (hb:b.all blk=true) (hv:v.all valC=true) (h:Rds u ts):Rds (b++(quoteT v++u)) ((2,v)::ts)
 |sgn {b g u:List UInt8} {ts:List Tok} (hb:b.all blk=true) (hg:g∈signs) (hu:∀c v,u=c::v->c≠61) (h:Rds u ts):Rds (b++(g++u)) ((3,g)::ts)
def hdT(ts:List Tok):Tok:=ts.headD (0,[])
theorem idx_drop{s:List UInt8}{n:Nat}{c:UInt8}{v:List UInt8}(h:s.drop n=c::v):idx s (n:Int)=some c/\n<s.length/\s.drop (n+1)=v:=by
 have hn:n<s.length:=by
  rcases Nat.lt_or_ge n s.length with h2|h2
  ·exact h2
  ·rw[ai9 h2] at h;cases h
 rw[bj8 hn] at h
 injection h with h1 h2
 exact⟨by rw[idx_nat hn,h1],hn,h2⟩
theorem drop_app{s b u:List UInt8}{n:Nat}(h:s.drop n=b++u):s.drop (n+b.length)=u:=by
 rw[<-bu8,h,List.drop_left]
theorem drop_len{s b u:List UInt8}{n:Nat}(hn:n<=s.length)(h:s.drop n=b++u):n+b.length+u.length=s.length:=by
 have:=congrArg List.length h
 simp at this
 omega
theorem u8n{c:UInt8}{k:Nat}(hk:k<256):((c.toNat:Int)==(k:Int))=(c==UInt8.ofNat k):=by
 by_cases h:c=UInt8.ofNat k
 ·subst h
  have:(UInt8.ofNat k).toNat=k:=by simp[UInt8.toNat_ofNat'];omega
  rw[this];simp
 ·have:(c.toNat:Int)≠(k:Int):=fun he=>h (by
   have:c.toNat=k:=by omega
   rw[<-this];simp)
  rw[beq_false_of_ne h,beq_false_of_ne this]
def spc(c:UInt8):Bool:=c==32||c==9||c==10||c==13||c==35
theorem space_ok{F:Nat}{r:Tpolicy_reader}(hl:r.s.length<=200000){u:List UInt8}(hu:∀c v,u=c::v->spc c=false):
  ∀(b:List UInt8) (n fuel:Nat),r.s.drop n=b++u->b.all blk=true->n<=r.s.length->b.length<fuel->M48_L1 F r fuel (n:Int)=some ((n+b.length:Nat):Int)
 |[],n,fuel,h,hb,hn,hf=>by
  obtain⟨fuel,rfl⟩:∃k,fuel=k+1:=⟨fuel - 1,by simp at hf;omega⟩
  rw[M48_L1]
  cases u with
  |nil=>
   have:n=r.s.length:=by have:=drop_len hn h;simp at this;omega
   rw[if_neg (by simp;omega)];rfl
  |cons c v=>
   obtain⟨h1,h2,h3⟩:=idx_drop (show r.s.drop n=c::v from h)
   have hc:=hu c v rfl
   rw[if_pos (decide_eq_true (by omega)),jn_def,h1,bn9,jn_def,jn_def]
   simp only[spc,Bool.or_eq_false_iff] at hc
   have e1:=u8n (c:=c) (k:=32) (by omega)
   have e2:=u8n (c:=c) (k:=9) (by omega)
   have e3:=u8n (c:=c) (k:=10) (by omega)
   have e4:=u8n (c:=c) (k:=13) (by omega)
   have e5:=u8n (c:=c) (k:=35) (by omega)
   rw[show((32:Nat):Int)=32 from rfl,show(UInt8.ofNat 32)=32 from rfl,hc.1.1.1.1] at e1
   rw[show((9:Nat):Int)=9 from rfl,show(UInt8.ofNat 9)=9 from rfl,hc.1.1.1.2] at e2
   rw[show((10:Nat):Int)=10 from rfl,show(UInt8.ofNat 10)=10 from rfl,hc.1.1.2] at e3
   rw[show((13:Nat):Int)=13 from rfl,show(UInt8.ofNat 13)=13 from rfl,hc.1.2] at e4
   rw[show((35:Nat):Int)=35 from rfl,show(UInt8.ofNat 35)=35 from rfl,hc.2] at e5
   simp only[e1,e2,e3,e4,e5,by9,if_false]
   rfl
 |c::b,n,fuel,h,hb,hn,hf=>by
  obtain⟨fuel,rfl⟩:∃k,fuel=k+1:=⟨fuel - 1,by simp at hf;omega⟩
  obtain⟨h1,h2,h3⟩:=idx_drop (show r.s.drop n=c::(b++u) from h)
  rw[ae9,al9] at hb
  have ih:=space_ok (F:=F) hl hu b (n+1) fuel h3 hb.2 h2 (by simp at hf;omega)
  rw[M48_L1,if_pos (decide_eq_true (by omega)),jn_def,h1,bn9,jn_def,jn_def]
  rw[w64_id (by omega) (by omega),show((n:Int)+1)=((n+1:Nat):Int) from rfl]
  simp only[ih]
  have hc:=hb.1
  simp only[blk,am9,beq_iff_eq] at hc
  rcases hc with rfl|rfl
  ·simp;omega
  ·simp;omega
theorem M48_ok{F:Nat}{r:Tpolicy_reader}(hl:r.s.length<=200000)(hF:r.s.length<F){b u:List UInt8}{n:Nat}(he:r.end_=n)(hn:n<=r.s.length)(h:r.s.drop n=b++u)(hb:b.all blk=true)
  (hu:∀c v,u=c::v->spc c=false):M48 F r=some ((n+b.length:Nat):Int):=by
 have:=drop_len hn h
 rw[M48,he]
 exact space_ok hl hu b n F h hb hn (by omega)
theorem M49_eq(F:Nat)(c:UInt8):M49 F (c.toNat:Int)=some (run c):=M104_eq F c
theorem runs_ok{F:Nat}{r:Tpolicy_reader}(hl:r.s.length<=200000){k:Int->Option (Int×Int×(List UInt8)×Int×Int×Int)}{u:List UInt8}(hu:∀c v,u=c::v->run c=false):
  ∀(q:List UInt8) (n fuel:Nat),r.s.drop n=q++u->q.all run=true->n<=r.s.length->q.length<fuel->M22_L1 F r k fuel (n:Int)=k ((n+q.length:Nat):Int)
 |[],n,fuel,h,hb,hn,hf=>by
  obtain⟨fuel,rfl⟩:∃k,fuel=k+1:=⟨fuel - 1,by simp at hf;omega⟩
  rw[M22_L1]
  cases u with
  |nil=>
   have:n=r.s.length:=by have:=drop_len hn h;simp at this;omega
   rw[if_neg (by simp;omega)];rfl
  |cons c v=>
   obtain⟨h1,h2,h3⟩:=idx_drop (show r.s.drop n=c::v from h)
   rw[if_pos (decide_eq_true (by omega)),h1,bn9,M49_eq,bn9,hu c v rfl]
   rfl
 |c::q,n,fuel,h,hb,hn,hf=>by
  obtain⟨fuel,rfl⟩:∃k,fuel=k+1:=⟨fuel - 1,by simp at hf;omega⟩
  obtain⟨h1,h2,h3⟩:=idx_drop (show r.s.drop n=c::(q++u) from h)
  rw[ae9,al9] at hb
  have ih:=runs_ok (F:=F) (k:=k) hl hu q (n+1) fuel h3 hb.2 h2 (by simp at hf;omega)
  rw[M22_L1,if_pos (decide_eq_true (by omega)),h1,bn9,M49_eq,bn9,hb.1,if_pos rfl,w64_id (by omega) (by omega),show((n:Int)+1)=((n+1:Nat):Int) from rfl,ih]
  congr 2
  simp;omega
theorem run_spc{c:UInt8}(h:run c=true):spc c=false:=by
 revert h
 simp only[run,spc,am9,al9,decide_eq_true_eq,beq_iff_eq,Bool.or_eq_false_iff,beq_eq_false_iff_ne]
 intro h
 have e:∀k:UInt8,k.toNat<40->c≠k:=fun k hk he=>by subst he;omega
 exact⟨⟨⟨⟨e 32 (by decide),e 9 (by decide)⟩,e 10 (by decide)⟩,e 13 (by decide)⟩,e 35 (by decide)⟩
theorem next_run{F:Nat}{r:Tpolicy_reader}(hl:r.s.length<=200000)(hF:r.s.length<F){b q u:List UInt8}{n:Nat}(he:r.end_=n)(hn:n<=r.s.length)(h:r.s.drop n=b++(q++u))(hb:b.all blk=true)
  (hq:q≠[]) (hqr:q.all run=true) (hu:∀c v,u=c::v->run c=false):
  M22 F r=some (((n+b.length+q.length:Nat):Int),1,q,((n+b.length:Nat):Int),r.at_,r.bad):=by
 obtain⟨c,q',rfl⟩:=List.exists_cons_of_ne_nil hq
 have hc:run c=true:=by rw[ae9,al9] at hqr;exact hqr.1
 have hd:=drop_app h
 have hlen:=drop_len hn h
 have h48:=M48_ok hl hF he hn h hb (fun c' v hv=>by injection hv with h1 _;rw[<-h1];exact run_spc hc)
 obtain⟨h1,h2,h3⟩:=idx_drop (show r.s.drop (n+b.length)=c::(q'++u) from hd)
 have hr:=runs_ok (F:=F) (r:=r) (u:=u) hl (k:=fun(n91:Int)=>if 0<=((n+b.length:Nat):Int)/\0<=n91/\((n+b.length:Nat):Int).toNat<=n91.toNat/\n91.toNat<=r.s.length then some (n91,1,((r.s.drop ((n+b.length:Nat):Int).toNat).take (n91.toNat - ((n+b.length:Nat):Int).toNat)),((n+b.length:Nat):Int),r.at_,r.bad) else none) hu (c::q') (n+b.length) F hd hqr (by omega) (by simp at hlen ⊢;omega)
 unfold M22
 rw[h48,bn9]
 simp only[jn_def]
 rw[if_neg (by simp;omega),h1,bn9,M49_eq,bn9,hc,if_pos rfl,hr]
 simp only[bb9]
 rw[if_pos ⟨by omega,by omega,by omega,by simp at hlen ⊢;omega⟩,hd,show n+b.length+(c::q').length - (n+b.length)=(c::q').length by omega,List.take_left]
theorem next_end{F:Nat}{r:Tpolicy_reader}(hl:r.s.length<=200000)(hF:r.s.length<F){n:Nat}(he:r.end_=n)(hn:n<=r.s.length)(h:(r.s.drop n).all blk=true):
  M22 F r=some ((r.s.length:Int),0,[],(r.s.length:Int),r.at_,r.bad):=by
 have h48:=M48_ok (u:=[]) hl hF he hn (by simp) h (fun c' v hv=>by cases hv)
 have:n+(r.s.drop n).length=r.s.length:=by simp;omega
 rw[this] at h48
 unfold M22
 rw[h48,bn9]
 simp only[jn_def]
 rw[if_pos (by simp)]
theorem text_ok{F:Nat}{r:Tpolicy_reader}(hl:r.s.length<=200000){k:Option ((List UInt8)×Bool×Int)}{u:List UInt8} :
  ∀(v:List UInt8) (n fuel:Nat) (l:List Int),r.s.drop n=escT v++(34::u)->v.all valC=true->n<=r.s.length->r.s.length<fuel+n->l.length<=n->
   M50_L1 F r k fuel (n:Int) l=some (l.map (fun n=>UInt8.ofNat n.toNat)++v,true,((n+(escT v).length+1:Nat):Int))
 |[],n,fuel,l,h,hv,hn,hf,hl2=>by
  obtain⟨h1,h2,h3⟩:=idx_drop (show r.s.drop n=34::u from h)
  obtain⟨fuel,rfl⟩:∃k,fuel=k+1:=⟨fuel - 1,by omega⟩
  rw[M50_L1,if_pos (decide_eq_true (by omega)),h1,bn9,jn_def,if_pos (by decide),w64_id (by omega) (by omega)]
  simp[escT]
 |c::v,n,fuel,l,h,hv,hn,hf,hl2=>by
  rw[ae9,al9] at hv
  have hc:=hv.1
  simp only[valC,al9,decide_eq_true_eq] at hc
  by_cases he:c=34\/c=92
  ·have hesc:escT (c::v)=92::c::escT v:=by rw[escT,if_pos he]
   rw[hesc] at h
   obtain⟨h1,h2,h3⟩:=idx_drop (show r.s.drop n=92::(c::(escT v++(34::u))) from h)
   obtain⟨h4,h5,h6⟩:=idx_drop h3
   obtain⟨fuel,rfl⟩:∃k,fuel=k+1:=⟨fuel - 1,by omega⟩
   have ih:=text_ok (F:=F) (k:=k) hl v (n+2) fuel (l++[(c.toNat:Int)]) h6 hv.2 h5 (by omega) (by simp;omega)
   rw[M50_L1,if_pos (decide_eq_true (by omega)),h1,bn9,jn_def]
   rw[w64_id (show -9223372036854775808<=(n:Int)+1 by omega) (by omega),show((n:Int)+1)=((n+1:Nat):Int) from rfl,h4]
   simp only[bn9]
   rw[if_neg (by decide),if_neg (by decide),if_neg (by decide),if_pos (by decide),if_neg (by simp;omega)]
   have hlen:(l++[(c.toNat:Int)]).length*1<=140737488355328:=by simp;omega
   rw[w64_id (by omega) (by omega),show(((n+1:Nat):Int)+1)=((n+2:Nat):Int) from rfl]
   rcases he with rfl|rfl
   ·rw[if_neg (by decide),if_pos hlen,ih,hesc]
    simp;omega
   ·rw[if_pos (by decide),if_neg (by decide),if_pos hlen,ih,hesc]
    simp;omega
  ·have hesc:escT (c::v)=c::escT v:=by rw[escT,if_neg he]
   rw[hesc] at h
   obtain⟨h1,h2,h3⟩:=idx_drop (show r.s.drop n=c::(escT v++(34::u)) from h)
   obtain⟨fuel,rfl⟩:∃k,fuel=k+1:=⟨fuel - 1,by omega⟩
   have ih:=text_ok (F:=F) (k:=k) hl v (n+1) fuel (l++[(c.toNat:Int)]) h3 hv.2 h2 (by omega) (by simp;omega)
   have e1:((c.toNat:Int)==34)=false:=by
    have:=u8n (c:=c) (k:=34) (by omega)
    rw[show((34:Nat):Int)=34 from rfl] at this
    rw[this];exact beq_false_of_ne fun e=>he (.inl e)
   have e2:((c.toNat:Int)==92)=false:=by
    have:=u8n (c:=c) (k:=92) (by omega)
    rw[show((92:Nat):Int)=92 from rfl] at this
    rw[this];exact beq_false_of_ne fun e=>he (.inr e)
   have hlen:(l++[(c.toNat:Int)]).length*1<=140737488355328:=by simp;omega
   rw[M50_L1,if_pos (decide_eq_true (by omega)),h1,bn9,jn_def,e1,e2]
   rw[if_neg (by simp),if_neg (by simp;omega),if_neg (by simp;omega),if_neg (by simp)]
   dsimp only
   rw[if_pos hlen,w64_id (by omega) (by omega),show((n:Int)+1)=((n+1:Nat):Int) from rfl,ih,hesc]
   simp;omega
theorem next_txt{F:Nat}{r:Tpolicy_reader}(hl:r.s.length<=200000)(hF:r.s.length<F){b v u:List UInt8}{n:Nat}(he:r.end_=n)(hn:n<=r.s.length)(h:r.s.drop n=b++(quoteT v++u))(hb:b.all blk=true)
  (hv:v.all valC=true):
  ∃m:Nat,M22 F r=some ((m:Int),2,v,((n+b.length:Nat):Int),r.at_,r.bad)/\m<=r.s.length/\r.s.drop m=u:=by
 have hd:=drop_app h
 have hlen:=drop_len hn h
 have h48:=M48_ok hl hF he hn h hb (fun c' v hv=>by
  rw[quoteT] at hv;simp at hv;rw[<-hv.1];rfl)
 obtain⟨h1,h2,h3⟩:=idx_drop (show r.s.drop (n+b.length)=34::(escT v++(34::u)) by rw[hd,quoteT];simp)
 have ht:=text_ok (F:=F) (r:=⟨r.s,((n+b.length:Nat):Int),r.now,r.at_,r.bad⟩) hl (k:=some (([]:List UInt8),false,((n+b.length:Nat):Int))) v (n+b.length+1) F [] h3 hv h2 (by show r.s.length<_;omega) (by simp)
 have hlen2:n+b.length+1+(escT v).length+1+u.length=r.s.length:=by
  have:=congrArg List.length h3
  simp at this;omega
 refine⟨n+b.length+1+(escT v).length+1,?_,by omega,?_⟩
 ·unfold M22
  rw[h48,bn9]
  simp only[jn_def]
  rw[if_neg (by simp;omega),h1,bn9,M49_eq,bn9,if_neg (by decide),if_pos (by decide)]
  unfold M50
  simp only[jn_def]
  rw[w64_id (by omega) (by omega),show(((n+b.length:Nat):Int)+1)=((n+b.length+1:Nat):Int) from rfl,ht]
  simp
 ·have:r.s.drop (n+b.length+1+(escT v++[34]).length)=u:=drop_app (by rw[h3];simp)
  rw[<-this];simp;congr 1
end Go.Proofs.YtppfkkkifdbnaaaGreatDoor
