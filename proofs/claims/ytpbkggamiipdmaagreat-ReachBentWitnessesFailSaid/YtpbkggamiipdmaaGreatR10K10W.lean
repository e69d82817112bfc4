/- Part of the proof: K10A, K10B, K10C, K10D, K10W. -/
import Derived.Test.YtpbkggamiipdmaaGreatR10Z10M
import Derived.Test.YtpbkggamiipdmaaGreatR10Z10O
namespace Go.Proofs.YtpbkggamiipdmaaGreat
open Go Go.Pv
set_option linter.unusedVariables false
set_option linter.unusedSimpArgs false
set_option maxRecDepth 100000
abbrev Tx:=B8
def vis(c:UInt8):Bool:=decide (33<=c.toNat)&&decide (c.toNat<=126)&&!decide (c.toNat=35)
def nm(s:Tx):Bool:=s.all vis&&decide (1<=s.length)&&decide (s.length<=100)
def le(a b:Tx):Bool:=Op.bytesLess a b||a==b
theorem le_nil{s:Tx}(h:nm s=true):le s []=false:=by
 cases s with
 |nil=>simp[nm] at h
 |cons c s=>simp[le,Op.bytesLess]
theorem w6s{a b:Tx}:le a b=false<->Op.bytesLess b a=true:=by
 unfold le
 rcases z8k a b with h|h|h
 ·simp[h,q3s h]
 ·subst h;simp[q9o]
 ·simp[h,q3s h,(z7y h).symm]
theorem w2h(F:Nat)(s:Tx)(h:s.length<=maxLen):M79 F s=some (nm s):=by
 have h':(s.length:Int)<=9223372036854775807:=by have:s.length<=9223372036854775807:=h;omega
 unfold M79
 rw[q2e,if_pos h',Int.toNat_natCast]
 generalize hk:(if (!(s==[]))=true then some (decide ((s.length:Int)<=100)) else some false)=k
 have:=w4f (g:=j7h F s k) (k:=k) (f:=false) s vis (fun _=>rfl) (fun m n=>by
  rw[j7h]
  cases hi:idx s n with
  |none=>rfl
  |some c=>
   simp only[Option.bind_some]
   by_cases h1:c.toNat<33
   ·rw[z4y (by omega)];simp[vis];omega
   ·rw[z7z (by omega)]
    by_cases h2:c.toNat>126
    ·rw[z4y (by omega)];simp[vis];omega
    ·rw[z7z (by omega)]
     by_cases h3:c.toNat=35
     ·rw[if_pos (by simp[h3])];simp[vis,h3]
     ·rw[if_neg (by simp;omega),if_pos];simp[vis];omega) s.length 0 (by omega)
 rw[show((0:Nat):Int)=0 from rfl] at this
 rw[this,List.drop_zero,<-hk]
 unfold nm
 cases s.all vis
 ·simp
 ·cases s with
  |nil=>simp
  |cons c s=>simp only[if_true,Bool.true_and];rw[if_pos (by simp)];congr 1;rw[Bool.eq_iff_iff];simp only[decide_eq_true_eq,Bool.and_eq_true,List.length_cons];omega
theorem z1x(F:Nat)(s:Tx)(h:s.length<=maxLen):M82 F s=some (nm s):=by
 have h':(s.length:Int)<=9223372036854775807:=by have:s.length<=9223372036854775807:=h;omega
 unfold M82
 rw[q2e,if_pos h',Int.toNat_natCast]
 generalize hk:(if decide ((s.length:Int)>=1)=true then some (decide ((s.length:Int)<=100)) else some false)=k
 have:=w4f (g:=j6h F s k) (k:=k) (f:=false) s vis (fun _=>rfl) (fun m n=>by
  rw[j6h]
  cases hi:idx s n with
  |none=>rfl
  |some c=>
   simp only[Option.bind_some]
   by_cases h1:c.toNat<33
   ·rw[z4y (by omega)];simp[vis];omega
   ·rw[z7z (by omega)]
    by_cases h2:c.toNat>126
    ·rw[z4y (by omega)];simp[vis];omega
    ·rw[z7z (by omega)]
     by_cases h3:c.toNat=35
     ·rw[if_pos (by simp[h3])];simp[vis,h3]
     ·rw[if_neg (by simp;omega),if_pos];simp[vis];omega) s.length 0 (by omega)
 rw[show((0:Nat):Int)=0 from rfl] at this
 rw[this,List.drop_zero,<-hk]
 unfold nm
 cases s.all vis
 ·simp
 ·simp only[if_true,Bool.true_and]
  by_cases h1:1<=s.length
  ·rw[z4y (by omega)];congr 1;rw[Bool.eq_iff_iff];simp only[decide_eq_true_eq,Bool.and_eq_true];omega
  ·rw[z7z (by omega)];congr 1;symm;rw[Bool.eq_false_iff];simp only[decide_eq_true_eq,Bool.and_eq_true,ne_eq];omega
def nmd(s before:Tx)(first:Bool):Int:=if !nm s then 8 else if !first then (if le s before then 10 else 0) else 0
theorem z6u(F:Nat)(s b:Tx)(f:Bool)(h:s.length<=maxLen):w0j F s b f=some (nmd s b f):=by
 unfold w0j nmd
 rw[w2h F s h,Option.bind_some,q2e]
 cases nm s
 ·simp
 ·cases f
  ·simp[le];split<;>rfl
  ·simp
def nme(s:Tx)(p:Option Tx):Int:=if !nm s then 8 else match p with|some b=>if le s b then 10 else 0|none=>0
theorem w7a(s b:Tx):nmd s b true=nme s none:=by unfold nmd nme;cases nm s<;>rfl
theorem w1m(s b:Tx):nmd s b false=nme s (some b):=by unfold nmd nme;cases nm s<;>rfl
theorem z9o{s:Tx}{p:Option Tx}(h:nme s p=0):nm s=true/\∀b,p=some b->Op.bytesLess b s=true:=by
 unfold nme at h
 cases hn:nm s
 ·simp[hn] at h
 ·refine⟨rfl,fun b hb=>?_⟩
  subst hb
  simp only[hn,Bool.not_true,Bool.false_eq_true,if_false] at h
  split at h
  ·simp at h
  ·rename_i hl;exact w6s.1 (by simpa using hl)
abbrev j0k:=List (Tx×Bool)
def z2s(m:j0k):List Tx->j0k
 |[]=>m
 |x::l=>z2s (q0g m x true) l
def has(m:j0k)(x:Tx):Bool:=(q6b m x).getD false
theorem z8z(x:Tx):∀(l:List Tx) (m:j0k),has (z2s m l) x=(has m x||l.contains x)
 |[],m=>by simp[z2s]
 |y::l,m=>by
  rw[z2s,z8z x l,List.contains_cons]
  unfold has
  rw[q6j]
  by_cases h:y=x
  ·subst h;simp
  ·rw[if_neg h]
   have:(x==y)=false:=by simpa using fun e=>h e.symm
   rw[this,Bool.false_or]
theorem z9l(x:Tx)(l:List Tx):has (z2s [] l) x=l.contains x:=by rw[z8z];simp[has,q6b]
def q7t:Option Tx->List Tx->Int
 |_,[]=>0
 |p,s::l=>if nme s p≠0 then nme s p else q7t (some s) l
def ifE:Option Tx->List q0f->Int
 |_,[]=>0
 |p,x::l=>if nme x.Name p≠0 then nme x.Name p else if x.Methods=[] then 13 else if 200<x.Methods.length then 3 else if q7t none x.Methods≠0 then q7t none x.Methods else ifE (some x.Name) l
def mtE(fs:Tx->Bool)(lo:Bool):Option Tx->List q1k->Int
 |_,[]=>0
 |p,m::l=>if nme m.Name p≠0 then nme m.Name p else if (!lo&&!fs m.Func)=true then 4 else mtE fs lo (some m.Name) l
def tyE(fs:Tx->Bool)(lo:Bool):Option Tx->List q7i->Int
 |_,[]=>0
 |p,x::l=>if nme x.Name p≠0 then nme x.Name p else if 200<x.Methods.length then 3 else if mtE fs lo none x.Methods≠0 then mtE fs lo none x.Methods else tyE fs lo (some x.Name) l
def clE(fs:Tx->Bool)(is:Tx->Option (List Tx))(lo:Bool)(c:q6c):Int:=
 if c.Kind=1 then (if (!lo&&!fs c.Target)=true then 4 else if c.Method≠[] then 2 else if c.Feature≠[]/\nm c.Feature=false then 8 else 0)
 else if c.Kind=2 then (if (!lo&&!((is c.Target).elim false fun l=>l.contains c.Method))=true then 4 else if c.Feature≠[]/\nm c.Feature=false then 8 else 0) else 7
def csE(fs:Tx->Bool)(is:Tx->Option (List Tx))(lo:Bool):List q6c->Int
 |[]=>0
 |c::l=>if clE fs is lo c≠0 then clE fs is lo c else csE fs is lo l
def lsE(there:Tx->Bool)(lo:Bool):Option Tx->List Tx->Int
 |_,[]=>0
 |p,s::l=>if (!lo&&!there s)=true then 4 else if (p.elim false fun b=>le s b)=true then 10 else lsE there lo (some s) l
def fnE(fs ts:Tx->Bool)(is:Tx->Option (List Tx))(lo:Bool):Option Tx->List q5e->Int
 |_,[]=>0
 |p,x::l=>if nme x.Name p≠0 then nme x.Name p else if nm x.Component=false then 8 else if 200<x.Calls.length then 3 else if csE fs is lo x.Calls≠0 then csE fs is lo x.Calls else if lsE ts lo none x.Makes≠0 then lsE ts lo none x.Makes else fnE fs ts is lo (some x.Name) l
def ifm(m:List (Tx×q0f)):List q0f->List (Tx×q0f)
 |[]=>m
 |x::l=>ifm (q0g m x.Name x) l
def q4q(g:q7c):Tx->Bool:=fun x=>(g.Funcs.map (·.Name)).contains x
def j3t(g:q7c):Tx->Bool:=fun x=>(g.Types.map (·.Name)).contains x
def w0n(g:q7c):Tx->Option (List Tx):=fun x=>(q6b (ifm [] g.Ifaces) x).map (·.Methods)
def chk(lo:Bool)(g:q7c):Int:=
 if 200<g.Ifaces.length then 3 else if 500<g.Types.length then 3 else if 3000<g.Funcs.length then 3
 else if ifE none g.Ifaces≠0 then ifE none g.Ifaces
 else if tyE (q4q g) lo none g.Types≠0 then tyE (q4q g) lo none g.Types
 else if fnE (q4q g) (j3t g) (w0n g) lo none g.Funcs≠0 then fnE (q4q g) (j3t g) (w0n g) lo none g.Funcs
 else lsE (q4q g) lo none g.Entries
theorem v6e{F:Nat}(k:j0k->Option q9c):∀(l:List q5e) (m:j0k),j2i F k l m=k (z2s m (l.map (·.Name)))
 |[],m=>rfl
 |x::l,m=>by rw[j2i,v6e k l];rfl
theorem v7e{F:Nat}(k:j0k->Option q9c):∀(l:List q7i) (m:j0k),j3i F k l m=k (z2s m (l.map (·.Name)))
 |[],m=>rfl
 |x::l,m=>by rw[j3i,v7e k l];rfl
theorem v8e{F:Nat}(k:List (Tx×q0f)->Option q9c):∀(l:List q0f) (m:List (Tx×q0f)),j4i F k l m=k (ifm m l)
 |[],m=>rfl
 |x::l,m=>by rw[j4i,v8e k l];rfl
def kOf(g:q7c)(lo:Bool):q9c:=q9c.mk lo (ifm [] g.Ifaces) (z2s [] (g.Types.map (·.Name))) (z2s [] (g.Funcs.map (·.Name)))
theorem M59_eq(F:Nat)(g:q7c)(lo:Bool):M59 F g lo=some (kOf g lo):=by
 unfold M59
 simp only[q2e,v8e,v7e,v6e]
 rfl
def pz(n:Int)(p:Option Tx)(s:Tx):Prop:=match p with|none=>n=0|some b=>n>0/\s=b
theorem j1o{n:Int}{p:Option Tx}{s x:Tx}(h:pz n p s):nmd x s (n==0)=nme x p:=by
 cases p with
 |none=>have h:n=0:=h;subst h;exact w7a x s
 |some b=>
  obtain⟨h1,h2⟩:=h
  subst h2
  rw[show(n==0)=false by simp;omega];exact w1m x s
theorem j9r(F:Nat)(k:Option Int):∀(l:List Tx) (n:Int) (s:Tx) (p:Option Tx),(∀x,x∈l->x.length<=maxLen)->0<=n->pz n p s->z7g F k l n s=if q7t p l≠0 then some (q7t p l) else k
 |[],n,s,p,_,_,_=>by simp[z7g,q7t]
 |x::l,n,s,p,hx,hn,hp=>by
  rw[z7g,z6u F x s _ (hx x (by simp)),Option.bind_some,j1o hp,q7t]
  by_cases h:nme x p=0
  ·simp only[h,bne_self_eq_false,Bool.false_eq_true,ne_eq,not_true_eq_false,if_false]
   exact j9r F k l (n+1) x (some x) (fun y hy=>hx y (List.mem_cons_of_mem _ hy)) (by omega) ⟨by omega,rfl⟩
  ·rw[if_pos (by simpa using h),if_pos h,if_pos h]
theorem j0s(F:Nat)(k:Option Int):∀(l:List q0f) (n:Int) (s:Tx) (p:Option Tx),(∀x,x∈l->z8o x)->0<=n->pz n p s->z8g F k l n s=if ifE p l≠0 then some (ifE p l) else k
 |[],n,s,p,_,_,_=>by simp[z8g,ifE]
 |x::l,n,s,p,hx,hn,hp=>by
  obtain⟨o1,⟨o2,_⟩,_⟩:=hx x (by simp)
  rw[z8g]
  simp only[q2e]
  rw[z6u F x.Name s _ o1,Option.bind_some,j1o hp,ifE]
  by_cases h:nme x.Name p=0
  ·simp only[h,bne_self_eq_false,Bool.false_eq_true,ne_eq,not_true_eq_false,if_false]
   by_cases h1:x.Methods=[]
   ·rw[if_pos (by simp[h1]),if_pos h1];simp
   ·rw[if_neg (by simpa using h1),if_neg h1]
    by_cases h2:200<x.Methods.length
    ·rw[z4y (by omega),if_pos h2];simp
    ·rw[z7z (by omega),if_neg h2,j9r F _ _ 0 [] none o2 (by omega) rfl]
     by_cases h3:q7t none x.Methods=0
     ·simp only[h3,bne_self_eq_false,Bool.false_eq_true,ne_eq,not_true_eq_false,if_false]
      exact j0s F k l (n+1) x.Name (some x.Name) (fun y hy=>hx y (List.mem_cons_of_mem _ hy)) (by omega) ⟨by omega,rfl⟩
     ·rw[if_pos h3,if_pos h3,if_pos h3]
  ·rw[if_pos (by simpa using h),if_pos h,if_pos h]
theorem j7r(F:Nat)(a:q9c)(fs:Tx->Bool)(hf:∀x,(q6b a.funcs x).getD false=fs x)(k:Option Int):∀(l:List q1k) (n:Int) (s:Tx) (p:Option Tx),(∀x,x∈l->x.Name.length<=maxLen)->0<=n->pz n p s->z5g F a k l n s=if mtE fs a.loose p l≠0 then some (mtE fs a.loose p l) else k
 |[],n,s,p,_,_,_=>by simp[z5g,mtE]
 |x::l,n,s,p,hx,hn,hp=>by
  have ih:=j7r F a fs hf k l (n+1) x.Name (some x.Name) (fun y hy=>hx y (List.mem_cons_of_mem _ hy)) (by omega) ⟨by omega,rfl⟩
  rw[z5g]
  simp only[q2e]
  rw[z6u F x.Name s _ (hx x (by simp)),Option.bind_some,j1o hp,mtE,ih,hf]
  by_cases h:nme x.Name p=0
  ·simp only[h,bne_self_eq_false,Bool.false_eq_true,ne_eq,not_true_eq_false,if_false]
   cases a.loose<;>cases fs x.Func<;>simp
  ·rw[if_pos (by simpa using h),if_pos h,if_pos h]
theorem j8r(F:Nat)(a:q9c)(fs:Tx->Bool)(hf:∀x,(q6b a.funcs x).getD false=fs x)(k:Option Int):∀(l:List q7i) (n:Int) (s:Tx) (p:Option Tx),(∀x,x∈l->j7b x)->0<=n->pz n p s->z6g F a k l n s=if tyE fs a.loose p l≠0 then some (tyE fs a.loose p l) else k
 |[],n,s,p,_,_,_=>by simp[z6g,tyE]
 |x::l,n,s,p,hx,hn,hp=>by
  obtain⟨o1,⟨o2,_⟩,_⟩:=hx x (by simp)
  rw[z6g]
  simp only[q2e]
  rw[z6u F x.Name s _ o1,Option.bind_some,j1o hp,tyE]
  by_cases h:nme x.Name p=0
  ·simp only[h,bne_self_eq_false,Bool.false_eq_true,ne_eq,not_true_eq_false,if_false]
   by_cases h2:200<x.Methods.length
   ·rw[z4y (by omega),if_pos h2];simp
   ·rw[z7z (by omega),if_neg h2,j7r F a fs hf _ _ 0 [] none (fun y hy=>(o2 y hy).1) (by omega) rfl]
    by_cases h3:mtE fs a.loose none x.Methods=0
    ·simp only[h3,bne_self_eq_false,Bool.false_eq_true,ne_eq,not_true_eq_false,if_false]
     exact j8r F a fs hf k l (n+1) x.Name (some x.Name) (fun y hy=>hx y (List.mem_cons_of_mem _ hy)) (by omega) ⟨by omega,rfl⟩
    ·rw[if_pos h3,if_pos h3,if_pos h3]
  ·rw[if_pos (by simpa using h),if_pos h,if_pos h]
theorem v7r(F:Nat)(l:List Tx)(x:Tx):M23 F l x=some (l.contains x):=by
 unfold M23 M86
 rw[q2e]
 have:=idxL (g:=j3h F x (some (-1))) (fun y:Tx=>x==y) (fun _=>rfl) (fun y l n=>by rw[j3h]) l 0
 rw[show((0:Nat):Int)=0 from rfl] at this
 rw[this]
 have e:(l.any fun y=>x==y)=l.contains x:=by rw[List.contains_eq_any_beq]
 rw[e]
 cases l.contains x
 ·rfl
 ·simp
theorem y8c(F:Nat)(a:q9c)(fs:Tx->Bool)(is:Tx->Option (List Tx))(hf:∀x,(q6b a.funcs x).getD false=fs x)(hi:∀x,(q6b a.ifaces x).map (·.Methods)=is x)(c:q6c)(hc:c.Feature.length<=maxLen):M174 F a c=some (clE fs is a.loose c):=by
 unfold M174 clE
 rw[q2e,w2h F _ hc,<-hi,hf]
 simp only[Option.bind_some,v7r]
 have tail:(if (!(c.Feature==([]:Tx)))=true then if (!nm c.Feature)=true then some (8:Int) else some 0 else some 0)=some (if c.Feature≠[]/\nm c.Feature=false then 8 else 0):=by
  by_cases h1:c.Feature=[]<;>cases h2:nm c.Feature<;>simp[h1]
 rw[tail]
 by_cases k1:c.Kind=1
 ·rw[if_pos (by simp[k1]),if_pos k1]
  by_cases k3:c.Method=[]<;>cases a.loose<;>cases fs c.Target<;>simp[k3]
 ·rw[if_neg (by simpa using k1),if_neg k1]
  by_cases k2:c.Kind=2
  ·rw[if_pos (by simp[k2]),if_pos k2]
   cases hm:q6b a.ifaces c.Target with
   |none=>cases a.loose<;>simp
   |some x=>
    cases a.loose
    ·cases hcc:x.Methods.contains c.Method<;>simp[hcc]<;>simp_all
    ·simp
  ·rw[if_neg (by simpa using k2),if_neg k2]
theorem j5r(F:Nat)(a:q9c)(fs:Tx->Bool)(is:Tx->Option (List Tx))(hf:∀x,(q6b a.funcs x).getD false=fs x)(hi:∀x,(q6b a.ifaces x).map (·.Methods)=is x)(k:Option Int):∀(l:List q6c),(∀c,c∈l->c.Feature.length<=maxLen)->z3g F a k l=if csE fs is a.loose l≠0 then some (csE fs is a.loose l) else k
 |[],_=>by simp[z3g,csE]
 |c::l,h=>by
  rw[z3g,y8c F a fs is hf hi c (h c (by simp)),Option.bind_some,csE,j5r F a fs is hf hi k l (fun c hc=>h c (List.mem_cons_of_mem _ hc))]
  by_cases h1:clE fs is a.loose c=0
  ·simp only[h1,bne_self_eq_false,Bool.false_eq_true,ne_eq,not_true_eq_false,if_false]
  ·rw[if_pos (by simpa using h1),if_pos h1,if_pos h1]
theorem q9t{α:Type}{a l:List α}{x:α}{n:Nat}(h:a.drop n=x::l):∃hn:n<a.length,a[n]=x/\a.drop (n+1)=l:=by
 have hn:n<a.length:=by
  rcases Nat.lt_or_ge n a.length with h2|h2
  ·exact h2
  ·rw[List.drop_eq_nil_of_le h2] at h;simp at h
 rw[List.drop_eq_getElem_cons hn] at h
 simp only[List.cons.injEq] at h
 exact⟨hn,h.1,h.2⟩
theorem v5n{α:Type}{a:List α}{n:Nat}(hn:n<a.length)(h0:n≠0)(hb:a.length<=maxLen):∃h:n - 1<a.length,idx a (w64 ((n:Int) - 1))=some a[n - 1]:=by
 have hb':a.length<=9223372036854775807:=hb
 refine⟨by omega,?_⟩
 rw[q9w (by omega) (by omega),show(n:Int) - 1=((n - 1:Nat):Int) by omega]
 exact q2h _
def prv(a:List Tx)(n:Nat):Option Tx:=if n=0 then none else a[n - 1]?
theorem z3a(a:List Tx):prv a 0=none:=rfl
theorem z6o{a:List Tx}{x:Tx}{n:Nat}(hn:n<a.length)(hx:a[n]=x):prv a (n+1)=some x:=by
 unfold prv
 rw[if_neg (by omega),Nat.add_sub_cancel,List.getElem?_eq_getElem hn,hx]
theorem v4n{a:List Tx}{n:Nat}(hn:n<a.length)(h0:n≠0):∃h:n - 1<a.length,prv a n=some a[n - 1]:=by
 refine⟨by omega,?_⟩
 unfold prv
 rw[if_neg h0,List.getElem?_eq_getElem (by omega)]
theorem j4r(F:Nat)(a:q9c)(a2:List Tx)(a3:j0k)(ha:a2.length<=maxLen)(k:Option Int):∀(l:List Tx) (n:Nat),a2.drop n=l->z2g F a a2 a3 k l n=if lsE (has a3) a.loose (prv a2 n) l≠0 then some (lsE (has a3) a.loose (prv a2 n) l) else k
 |[],n,_=>by simp[z2g,lsE]
 |x::l,n,hd=>by
  obtain⟨hn,hx,hl⟩:=q9t hd
  have ih:=j4r F a a2 a3 ha k l (n+1) hl
  rw[z6o hn hx,show((n+1:Nat):Int)=(n:Int)+1 from rfl] at ih
  rw[z2g]
  simp only[q2e]
  rw[ih,lsE]
  have e:(q6b a3 x).getD false=has a3 x:=rfl
  rw[e]
  by_cases h0:n=0
  ·subst h0
   rw[z3a]
   cases a.loose<;>cases has a3 x<;>simp
  ·obtain⟨_,e1⟩:=v5n hn h0 ha
   obtain⟨_,e2⟩:=v4n hn h0
   rw[z4y (show(n:Int)>0 by omega),e1,e2]
   simp only[Option.bind_some,Option.elim_some]
   have e3:(Op.bytesLess x a2[n - 1]||x==a2[n - 1])=le x a2[n - 1]:=rfl
   rw[e3]
   cases a.loose<;>cases has a3 x<;>by_cases hc:le x a2[n - 1]=true<;>simp[hc]
theorem w0i(F:Nat)(a:q9c)(a2:List Tx)(a3:j0k)(ha:a2.length<=maxLen):M130 F a a2 a3=some (lsE (has a3) a.loose none a2):=by
 unfold M130
 rw[q2e]
 have:=j4r F a a2 a3 ha (some 0) a2 0 rfl
 rw[show((0:Nat):Int)=0 from rfl,z3a] at this
 rw[this]
 split
 ·rfl
 ·rename_i h;simp only[ne_eq,Decidable.not_not] at h;rw[h]
theorem j6r(F:Nat)(a:q9c)(fs ts:Tx->Bool)(is:Tx->Option (List Tx))(hf:∀x,(q6b a.funcs x).getD false=fs x)(hi:∀x,(q6b a.ifaces x).map (·.Methods)=is x)(ht:has a.types=ts)(k:Option Int):
  ∀(l:List q5e) (n:Int) (s:Tx) (p:Option Tx),(∀x,x∈l->j9b x)->0<=n->pz n p s->z4g F a k l n s=if fnE fs ts is a.loose p l≠0 then some (fnE fs ts is a.loose p l) else k
 |[],n,s,p,_,_,_=>by simp[z4g,fnE]
 |x::l,n,s,p,hx,hn,hp=>by
  obtain⟨o1,o2,⟨o3,_⟩,⟨_,o4⟩,_⟩:=hx x (by simp)
  rw[z4g]
  simp only[q2e]
  rw[z6u F x.Name s _ o1,Option.bind_some,j1o hp,fnE]
  by_cases h:nme x.Name p=0
  ·simp only[h,bne_self_eq_false,Bool.false_eq_true,ne_eq,not_true_eq_false,if_false]
   rw[w2h F _ o2,Option.bind_some]
   by_cases h1:nm x.Component=false
   ·rw[if_pos (by simp[h1]),if_pos h1];simp
   ·rw[if_neg (by simpa using h1),if_neg h1]
    by_cases h2:200<x.Calls.length
    ·rw[z4y (by omega),if_pos h2];simp
    ·rw[z7z (by omega),if_neg h2,j5r F a fs is hf hi _ _ (fun c hc=>(o3 c hc).2.2.2.1)]
     by_cases h3:csE fs is a.loose x.Calls=0
     ·simp only[h3,bne_self_eq_false,Bool.false_eq_true,ne_eq,not_true_eq_false,if_false]
      rw[w0i F a _ _ o4,Option.bind_some,ht]
      by_cases h4:lsE ts a.loose none x.Makes=0
      ·simp only[h4,bne_self_eq_false,Bool.false_eq_true,ne_eq,not_true_eq_false,if_false]
       exact j6r F a fs ts is hf hi ht k l (n+1) x.Name (some x.Name) (fun y hy=>hx y (List.mem_cons_of_mem _ hy)) (by omega) ⟨by omega,rfl⟩
      ·rw[if_pos (by simpa using h4),if_pos h4,if_pos h4]
     ·rw[if_pos h3,if_pos h3,if_pos h3]
  ·rw[if_pos (by simpa using h),if_pos h,if_pos h]
theorem orz{n:Int}:(if n≠0 then some n else some 0)=some n:=by split<;>simp_all
theorem M60_eq(F:Nat)(g:q7c)(lo:Bool)(h:q2o g):M60 F (kOf g lo) g=some (chk lo g):=by
 obtain⟨⟨o1,_⟩,⟨o2,_⟩,⟨o3,_⟩,⟨_,o4⟩,_⟩:=h
 have hf:∀x,(q6b (kOf g lo).funcs x).getD false=q4q g x:=fun x=>z9l x _
 have ht:has (kOf g lo).types=j3t g:=funext fun x=>z9l x _
 have hi:∀x,(q6b (kOf g lo).ifaces x).map (·.Methods)=w0n g x:=fun x=>rfl
 have hf':has (kOf g lo).funcs=q4q g:=funext fun x=>z9l x _
 unfold M60 chk M127 M128 M129
 simp only[q2e]
 rw[j0s F _ _ 0 [] none o1 (by omega) rfl,j8r F _ _ hf _ _ 0 [] none o2 (by omega) rfl,j6r F _ _ _ _ hf hi ht _ _ 0 [] none o3 (by omega) rfl,orz,orz,orz,w0i F _ _ _ o4,hf',show(kOf g lo).loose=lo from rfl]
 simp only[Option.bind_some]
 by_cases h1:200<g.Ifaces.length
 ·rw[z4y (by omega),if_pos h1]
 rw[z7z (by omega),if_neg h1]
 by_cases h2:500<g.Types.length
 ·rw[z4y (by omega),if_pos h2]
 rw[z7z (by omega),if_neg h2]
 by_cases h3:3000<g.Funcs.length
 ·rw[z4y (by omega),if_pos h3]
 rw[z7z (by omega),if_neg h3]
 refine ite2 ne0 (fun _=>rfl) (fun _=>ite2 ne0 (fun _=>rfl) (fun _=>ite2 ne0 (fun _=>rfl) (fun _=>rfl)))
theorem M17_eq(F:Nat)(g:q7c)(h:q2o g):M17 F g=some (chk false g):=by
 unfold M17
 rw[M59_eq,Option.bind_some,M60_eq F g false h];rfl
theorem j4c{α β:Type}[DecidableEq α](k:α)(a b:β):∀m:List (α×β),q0g (q0g m k a) k b=q0g m k b
 |[]=>by simp[q0g]
 |(q,v)::m=>by
  by_cases h:q=k
  ·simp[q0g,h]
  ·simp[q0g,h,j4c k a b m]
abbrev MM:=List (Tx×j0k)
theorem v4e(F:Nat)(x:q0f)(k:MM->Option q4d)(m:MM):∀(l:List Tx) (a:j0k),j0i F x k l (q0g m x.Name a)=k (q0g m x.Name (z2s a l))
 |[],a=>rfl
 |y::l,a=>by
  rw[j0i,q6j,if_pos rfl]
  simp only[Option.isSome_some,if_true,Option.getD_some]
  rw[j4c,v4e F x k m l];rfl
def rfm(m:MM):List q0f->MM
 |[]=>m
 |x::l=>rfm (q0g m x.Name (z2s [] x.Methods)) l
theorem v5e(F:Nat)(k:MM->Option q4d):∀(l:List q0f) (m:MM),j1i F k l m=k (rfm m l)
 |[],m=>rfl
 |x::l,m=>by
  rw[j1i]
  simp only[q2e]
  rw[v4e,v5e F k l];rfl
theorem v3e{F:Nat}(k:j0k->Option q4d):∀(l:List q7i) (m:j0k),j9h F k l m=k (z2s m (l.map (·.Name)))
 |[],m=>rfl
 |x::l,m=>by rw[j9h,v3e k l];rfl
theorem v2e{F:Nat}(k:j0k->Option q4d):∀(l:List q5e) (m:j0k),j8h F k l m=k (z2s m (l.map (·.Name)))
 |[],m=>rfl
 |x::l,m=>by rw[j8h,v2e k l];rfl
def nOf(g:q7c):q4d:=q4d.mk (rfm [] g.Ifaces) (z2s [] (g.Types.map (·.Name))) (z2s [] (g.Funcs.map (·.Name)))
theorem M72_eq(F:Nat)(g:q7c):M72 F g=some (nOf g):=by
 unfold M72
 simp only[q2e,v5e,v3e,v2e]
 rfl
theorem v2z(t:Tx):∀(l:List q0f) (m:MM) (m':List (Tx×q0f)),q6b m t=(q6b m' t).map (fun x=>z2s [] x.Methods)->q6b (rfm m l) t=(q6b (ifm m' l) t).map (fun x=>z2s [] x.Methods)
 |[],m,m',h=>h
 |x::l,m,m',h=>by
  rw[rfm,ifm]
  refine v2z t l _ _ ?_
  rw[q6j,q6j]
  split
  ·rfl
  ·exact h
theorem z1z(F:Nat){a:List Tx}{n:Nat}{x:Tx}(hn:n<a.length)(hx:a[n]=x)(ha:a.length<=maxLen):w2j F a n=some (if ((prv a n).elim false fun b=>le x b)=true then 10 else 0):=by
 unfold w2j
 by_cases h0:n=0
 ·subst h0
  rw[z7z (by omega),z3a];rfl
 ·obtain⟨_,e1⟩:=v5n hn h0 ha
  obtain⟨_,e2⟩:=v4n hn h0
  rw[z4y (by omega),q2h hn,Option.bind_some,e1,Option.bind_some,e2,hx]
  simp only[Option.elim_some]
  have e3:(Op.bytesLess x a[n - 1]||x==a[n - 1])=le x a[n - 1]:=rfl
  rw[e3]
  by_cases hc:le x a[n - 1]=true<;>simp[hc]
theorem w6a{x:Tx}{p:Option Tx}:(if nm x=false then (8:Int) else if (p.elim false fun b=>le x b)=true then 10 else 0)=nme x p:=by
 unfold nme
 cases nm x<;>cases p<;>rfl
theorem j2r(F:Nat)(x:q0f)(ha:x.Methods.length<=maxLen)(hm:∀s,s∈x.Methods->s.length<=maxLen)(k:Option Int):∀(l:List Tx) (n:Nat),x.Methods.drop n=l->z1g F x k l n=if q7t (prv x.Methods n) l≠0 then some (q7t (prv x.Methods n) l) else k
 |[],n,_=>by simp[z1g,q7t]
 |s::l,n,hd=>by
  obtain⟨hn,hx,hl⟩:=q9t hd
  have hs:s∈x.Methods:=by rw[<-hx];exact List.getElem_mem _
  have ih:=j2r F x ha hm k l (n+1) hl
  rw[z6o hn hx,show((n+1:Nat):Int)=(n:Int)+1 from rfl] at ih
  rw[z1g,z1x F s (hm s hs),Option.bind_some,z1z F hn hx ha,Option.bind_some,ih,q7t,<-w6a]
  cases nm s<;>by_cases hc:((prv x.Methods n).elim false fun b=>le s b)=true<;>simp[hc]
def bz(s:Tx)(p:Option Tx):Prop:=match p with|none=>s=[]|some b=>s=b
theorem v6o{x s:Tx}{p:Option Tx}(h:bz s p):(if nm x=false then (8:Int) else if le x s=true then 10 else 0)=nme x p:=by
 unfold nme
 cases p with
 |none=>
  have h:s=[]:=h
  subst h
  cases hn:nm x
  ·rfl
  ·rw[le_nil hn];rfl
 |some b=>
  have h:s=b:=h
  subst h
  cases nm x<;>rfl
theorem j3r(F:Nat)(k:Option Int):∀(l:List q0f) (s:Tx) (p:Option Tx),(∀x,x∈l->z8o x)->bz s p->z2c F k l s=if ifE p l≠0 then some (ifE p l) else k
 |[],s,p,_,_=>by simp[z2c,ifE]
 |x::l,s,p,hx,hp=>by
  obtain⟨o1,⟨o2,o3⟩,_⟩:=hx x (by simp)
  have ih:=j3r F k l x.Name (some x.Name) (fun y hy=>hx y (List.mem_cons_of_mem _ hy)) rfl
  have e:=j2r F x o3 o2 (z2c F k l x.Name) x.Methods 0 rfl
  rw[show((0:Nat):Int)=0 from rfl,z3a] at e
  rw[z2c]
  simp only[q2e]
  rw[z1x F x.Name o1,Option.bind_some,ifE,e,ih,<-v6o hp]
  have e3:(Op.bytesLess x.Name s||x.Name==s)=le x.Name s:=rfl
  rw[e3]
  cases nm x.Name
  ·simp
  ·by_cases hc:le x.Name s=true
   ·simp[hc]
   ·by_cases h1:x.Methods=[]
    ·simp[hc,h1]
    ·by_cases h2:200<x.Methods.length
     ·rw[if_neg (by simp),if_neg hc,if_neg (by simpa using h1),z4y (by omega)];simp[hc,h1,h2]
     ·rw[if_neg (by simp),if_neg hc,if_neg (by simpa using h1),z7z (by omega)];simp[hc,h1,h2]
      by_cases h3:q7t none x.Methods=0<;>simp[h3]
theorem j0r(F:Nat)(a:q8b)(fs:Tx->Bool)(hf:∀x,(q6b a.n.funcs x).getD false=fs x)(k:Option Int):∀(l:List q1k) (s:Tx) (p:Option Tx),(∀x,x∈l->x.Name.length<=maxLen)->bz s p->z9f F a k l s=if mtE fs a.loose p l≠0 then some (mtE fs a.loose p l) else k
 |[],s,p,_,_=>by simp[z9f,mtE]
 |x::l,s,p,hx,hp=>by
  have ih:=j0r F a fs hf k l x.Name (some x.Name) (fun y hy=>hx y (List.mem_cons_of_mem _ hy)) rfl
  rw[z9f]
  simp only[q2e]
  rw[z1x F x.Name (hx x (by simp)),Option.bind_some,mtE,ih,hf,<-v6o hp]
  have e3:(Op.bytesLess x.Name s||x.Name==s)=le x.Name s:=rfl
  rw[e3]
  cases nm x.Name
  ·simp
  ·by_cases hc:le x.Name s=true
   ·simp[hc]
   ·cases a.loose<;>cases fs x.Func<;>simp[hc]
theorem j1r(F:Nat)(a:q8b)(fs:Tx->Bool)(hf:∀x,(q6b a.n.funcs x).getD false=fs x)(k:Option Int):∀(l:List q7i) (s:Tx) (p:Option Tx),(∀x,x∈l->j7b x)->bz s p->z0g F a k l s=if tyE fs a.loose p l≠0 then some (tyE fs a.loose p l) else k
 |[],s,p,_,_=>by simp[z0g,tyE]
 |x::l,s,p,hx,hp=>by
  obtain⟨o1,⟨o2,o3⟩,_⟩:=hx x (by simp)
  have ih:=j1r F a fs hf k l x.Name (some x.Name) (fun y hy=>hx y (List.mem_cons_of_mem _ hy)) rfl
  rw[z0g]
  simp only[q2e]
  rw[z1x F x.Name o1,Option.bind_some,tyE,j0r F a fs hf _ _ [] none (fun y hy=>(o2 y hy).1) rfl,ih,<-v6o hp]
  have e3:(Op.bytesLess x.Name s||x.Name==s)=le x.Name s:=rfl
  rw[e3]
  cases nm x.Name
  ·simp
  ·by_cases hc:le x.Name s=true
   ·simp[hc]
   ·by_cases h2:200<x.Methods.length
    ·rw[if_neg (by simp),if_neg hc,z4y (by omega)];simp[hc,h2]
    ·rw[if_neg (by simp),if_neg hc,z7z (by omega)];simp[hc,h2]
     by_cases h3:mtE fs a.loose none x.Methods=0<;>simp[h3]
theorem y7c(F:Nat)(a:q8b)(fs:Tx->Bool)(is:Tx->Option (List Tx))(hf:∀x,(q6b a.n.funcs x).getD false=fs x)(hi:∀x,q6b a.n.ifaces x=(is x).map (z2s []))(c:q6c)(hc:c.Feature.length<=maxLen):M187 F a c=some (clE fs is a.loose c):=by
 unfold M187 clE
 rw[q2e,z1x F _ hc,hi,hf]
 simp only[Option.bind_some]
 have tail:(if (!(c.Feature==([]:Tx)))=true then if (!nm c.Feature)=true then some (8:Int) else some 0 else some 0)=some (if c.Feature≠[]/\nm c.Feature=false then 8 else 0):=by
  by_cases h1:c.Feature=[]<;>cases h2:nm c.Feature<;>simp[h1]
 rw[tail]
 by_cases k1:c.Kind=1
 ·rw[if_pos (by simp[k1]),if_pos k1]
  by_cases k3:c.Method=[]<;>cases a.loose<;>cases fs c.Target<;>simp[k3]
 ·rw[if_neg (by simpa using k1),if_neg k1]
  by_cases k2:c.Kind=2
  ·rw[if_pos (by simp[k2]),if_pos k2]
   cases hm:is c.Target with
   |none=>cases a.loose<;>simp
   |some l=>
    have e:(q6b (z2s [] l) c.Method).getD false=l.contains c.Method:=z9l _ _
    simp only[Option.map_some,Option.isSome_some,if_true,Option.getD_some,e,Option.elim_some]
    cases a.loose<;>by_cases hcc:l.contains c.Method=true<;>simp only[hcc]<;>simp
  ·rw[if_neg (by simpa using k2),if_neg k2]
theorem j8q(F:Nat)(a:q8b)(fs:Tx->Bool)(is:Tx->Option (List Tx))(hf:∀x,(q6b a.n.funcs x).getD false=fs x)(hi:∀x,q6b a.n.ifaces x=(is x).map (z2s []))(k:Option Int):∀(l:List q6c),(∀c,c∈l->c.Feature.length<=maxLen)->z8f F a k l=if csE fs is a.loose l≠0 then some (csE fs is a.loose l) else k
 |[],_=>by simp[z8f,csE]
 |c::l,h=>by
  rw[z8f,y7c F a fs is hf hi c (h c (by simp)),Option.bind_some,csE,j8q F a fs is hf hi k l (fun c hc=>h c (List.mem_cons_of_mem _ hc))]
  by_cases h1:clE fs is a.loose c=0<;>simp[h1]
theorem j7q(F:Nat)(a:q8b)(x:q5e)(ha:x.Makes.length<=maxLen)(k:Option Int):∀(l:List Tx) (n:Nat),x.Makes.drop n=l->z7f F a x k l n=if lsE (has a.n.types) a.loose (prv x.Makes n) l≠0 then some (lsE (has a.n.types) a.loose (prv x.Makes n) l) else k
 |[],n,_=>by simp[z7f,lsE]
 |s::l,n,hd=>by
  obtain⟨hn,hx,hl⟩:=q9t hd
  have ih:=j7q F a x ha k l (n+1) hl
  rw[z6o hn hx,show((n+1:Nat):Int)=(n:Int)+1 from rfl] at ih
  rw[z7f]
  simp only[q2e]
  have e:(q6b a.n.types s).getD false=has a.n.types s:=rfl
  rw[z1z F hn hx ha,Option.bind_some,ih,lsE,e]
  cases a.loose<;>cases has a.n.types s<;>by_cases hc:((prv x.Makes n).elim false fun b=>le s b)=true<;>simp[hc]
theorem v1e(F:Nat)(a:q8b)(ha:a.g.Entries.length<=maxLen)(k:Option Int):∀(l:List Tx) (n:Nat),a.g.Entries.drop n=l->z3x F a k l n=if lsE (has a.n.funcs) a.loose (prv a.g.Entries n) l≠0 then some (lsE (has a.n.funcs) a.loose (prv a.g.Entries n) l) else k
 |[],n,_=>by simp[z3x,lsE]
 |s::l,n,hd=>by
  obtain⟨hn,hx,hl⟩:=q9t hd
  have ih:=v1e F a ha k l (n+1) hl
  rw[z6o hn hx,show((n+1:Nat):Int)=(n:Int)+1 from rfl] at ih
  rw[z3x]
  simp only[q2e]
  have e:(q6b a.n.funcs s).getD false=has a.n.funcs s:=rfl
  rw[z1z F hn hx ha,Option.bind_some,ih,lsE,e]
  cases a.loose<;>cases has a.n.funcs s<;>by_cases hc:((prv a.g.Entries n).elim false fun b=>le s b)=true<;>simp[hc]
theorem j9q(F:Nat)(a:q8b)(fs ts:Tx->Bool)(is:Tx->Option (List Tx))(hf:∀x,(q6b a.n.funcs x).getD false=fs x)(hi:∀x,q6b a.n.ifaces x=(is x).map (z2s []))(ht:has a.n.types=ts)(k:Option Int):
  ∀(l:List q5e) (s:Tx) (p:Option Tx),(∀x,x∈l->j9b x)->bz s p->z1c F a k l s=if fnE fs ts is a.loose p l≠0 then some (fnE fs ts is a.loose p l) else k
 |[],s,p,_,_=>by simp[z1c,fnE]
 |x::l,s,p,hx,hp=>by
  obtain⟨o1,o2,⟨o3,_⟩,⟨_,o4⟩,_⟩:=hx x (by simp)
  have ih:=j9q F a fs ts is hf hi ht k l x.Name (some x.Name) (fun y hy=>hx y (List.mem_cons_of_mem _ hy)) rfl
  have e:=j7q F a x o4 (z1c F a k l x.Name) x.Makes 0 rfl
  rw[show((0:Nat):Int)=0 from rfl,z3a] at e
  rw[z1c]
  simp only[q2e]
  rw[z1x F x.Name o1,Option.bind_some,z1x F x.Component o2,Option.bind_some,fnE,j8q F a fs is hf hi _ _ (fun c hc=>(o3 c hc).2.2.2.1),e,ht,ih,<-v6o hp]
  have e3:(Op.bytesLess x.Name s||x.Name==s)=le x.Name s:=rfl
  rw[e3]
  cases nm x.Name
  ·simp
  ·by_cases hc:le x.Name s=true
   ·simp[hc]
   ·cases hcm:nm x.Component
    ·simp[hc,hcm]
    ·by_cases h2:200<x.Calls.length
     ·rw[if_neg (by simp),if_neg hc,if_neg (by simp),z4y (by omega)];simp[hc,h2,hcm]
     ·rw[if_neg (by simp),if_neg hc,if_neg (by simp),z7z (by omega)];simp[hc,h2,hcm]
      by_cases h3:csE fs is a.loose x.Calls=0
      ·by_cases h4:lsE ts a.loose none x.Makes=0<;>simp[h3,h4]
      ·simp[h3]
theorem M73_eq(F:Nat)(g:q7c)(lo:Bool)(h:q2o g):M73 F (q8b.mk g (nOf g) lo)=some (chk lo g):=by
 obtain⟨⟨o1,_⟩,⟨o2,_⟩,⟨o3,_⟩,⟨_,o4⟩,_⟩:=h
 have hf:∀x,(q6b (q8b.mk g (nOf g) lo).n.funcs x).getD false=q4q g x:=fun x=>z9l x _
 have ht:has (q8b.mk g (nOf g) lo).n.types=j3t g:=funext fun x=>z9l x _
 have hi:∀x,q6b (q8b.mk g (nOf g) lo).n.ifaces x=(w0n g x).map (z2s []):=fun x=>by
  show q6b (rfm [] g.Ifaces) x=_
  rw[v2z x g.Ifaces [] [] rfl]
  unfold w0n
  rw[Option.map_map];rfl
 have hf':has (nOf g).funcs=q4q g:=funext fun x=>z9l x _
 unfold M73 chk M136 M137 M138
 simp only[q2e]
 have e:=v1e F (q8b.mk g (nOf g) lo) o4 (some 0) g.Entries 0 rfl
 rw[show((0:Nat):Int)=0 from rfl,z3a] at e
 rw[j3r F _ _ [] none o1 rfl,j1r F _ _ hf _ _ [] none o2 rfl,j9q F _ _ _ _ hf hi ht _ _ [] none o3 rfl,orz,orz,orz]
 simp only at e
 rw[e,hf',orz]
 simp only[Option.bind_some]
 by_cases h1:200<g.Ifaces.length
 ·rw[z4y (by omega),if_pos h1]
 rw[z7z (by omega),if_neg h1]
 by_cases h2:500<g.Types.length
 ·rw[z4y (by omega),if_pos h2]
 rw[z7z (by omega),if_neg h2]
 by_cases h3:3000<g.Funcs.length
 ·rw[z4y (by omega),if_pos h3]
 rw[z7z (by omega),if_neg h3]
 refine ite2 ne0 (fun _=>rfl) (fun _=>ite2 ne0 (fun _=>rfl) (fun _=>ite2 ne0 (fun _=>rfl) (fun _=>rfl)))
theorem M18_eq(F:Nat)(g:q7c)(h:q2o g):M18 F g=some (chk false g):=by
 unfold M18
 rw[M72_eq,Option.bind_some,M73_eq F g false h];rfl
theorem j6q(F:Nat)(k:Option Int):∀(l:List Tx) (n:Int) (s:Tx) (p:Option Tx),(∀x,x∈l->x.length<=maxLen)->0<=n->pz n p s->z6f F k l n s=if q7t p l≠0 then some (q7t p l) else k
 |[],n,s,p,_,_,_=>by simp[z6f,q7t]
 |x::l,n,s,p,hx,hn,hp=>by
  have ih:=j6q F k l (n+1) x (some x) (fun y hy=>hx y (List.mem_cons_of_mem _ hy)) (by omega) ⟨by omega,rfl⟩
  rw[z6f,z6u F x s _ (hx x (by simp)),Option.bind_some,j1o hp,q7t,ih]
  by_cases h:nme x p=0<;>simp[h]
def feE(l:List Tx):Int:=if 30<l.length then 3 else q7t none l
theorem y1d(F:Nat)(l:List Tx)(h:∀x,x∈l->x.length<=maxLen):M143 F l=some (feE l):=by
 unfold M143 feE
 rw[q2e,j6q F _ l 0 [] none h (by omega) rfl,orz]
 by_cases h1:30<l.length
 ·rw[z4y (by omega),if_pos h1]
 ·rw[z7z (by omega),if_neg h1]
theorem v0e(F:Nat)(a:List Tx)(ha:a.length<=maxLen)(hm:∀s,s∈a->s.length<=maxLen)(k:Option Int):∀(l:List Tx) (n:Nat),a.drop n=l->z2x F a k l n=if q7t (prv a n) l≠0 then some (q7t (prv a n) l) else k
 |[],n,_=>by simp[z2x,q7t]
 |s::l,n,hd=>by
  obtain⟨hn,hx,hl⟩:=q9t hd
  have hs:s∈a:=by rw[<-hx];exact List.getElem_mem _
  have ih:=v0e F a ha hm k l (n+1) hl
  rw[z6o hn hx,show((n+1:Nat):Int)=(n:Int)+1 from rfl] at ih
  rw[z2x,z1x F s (hm s hs),Option.bind_some,z1z F hn hx ha,Option.bind_some,ih,q7t,<-w6a]
  cases nm s<;>by_cases hc:((prv a n).elim false fun b=>le s b)=true<;>simp[hc]
theorem M81_eq(F:Nat)(l:List Tx)(h:∀x,x∈l->x.length<=maxLen)(hl:l.length<=maxLen):M81 F l=some (feE l):=by
 unfold M81 feE
 have e:=v0e F l hl h (some 0) l 0 rfl
 rw[show((0:Nat):Int)=0 from rfl,z3a] at e
 rw[q2e,e,orz]
 by_cases h1:30<l.length
 ·rw[z4y (by omega),if_pos h1]
 ·rw[z7z (by omega),if_neg h1]
theorem j3o:∀{l:List Tx} {p:Option Tx},q7t p l=0->(∀b,p=some b->∀x,x∈l->Op.bytesLess b x=true)/\l.Pairwise (fun a b=>Op.bytesLess a b=true)/\∀x,x∈l->nm x=true
 |[],p,_=>⟨by simp,List.Pairwise.nil,by simp⟩
 |s::l,p,h=>by
  rw[q7t] at h
  split at h
  ·rename_i hc;exact absurd h hc
  ·rename_i hc
   obtain⟨h1,h2⟩:=z9o (s:=s) (p:=p) (by simpa using hc)
   obtain⟨i1,i2,i3⟩:=j3o h
   refine⟨fun b hb x hx=>?_,List.pairwise_cons.2 ⟨i1 s rfl,i2⟩,fun x hx=>?_⟩
   ·rcases List.mem_cons.1 hx with rfl|hx
    ·exact h2 b hb
    ·exact q4n (h2 b hb) (i1 s rfl x hx)
   ·rcases List.mem_cons.1 hx with rfl|hx
    ·exact h1
    ·exact i3 x hx
theorem j7u{there:Tx->Bool}:∀{l:List Tx} {p:Option Tx},lsE there false p l=0->(∀b,p=some b->∀x,x∈l->Op.bytesLess b x=true)/\l.Pairwise (fun a b=>Op.bytesLess a b=true)/\∀x,x∈l->there x=true
 |[],p,_=>⟨by simp,List.Pairwise.nil,by simp⟩
 |s::l,p,h=>by
  rw[lsE] at h
  split at h
  ·simp at h
  ·rename_i h1
   split at h
   ·simp at h
   ·rename_i h2
    obtain⟨i1,i2,i3⟩:=j7u h
    have hb0:∀b,p=some b->Op.bytesLess b s=true:=fun b hb=>by
     subst hb
     simp only[Option.elim_some] at h2
     exact w6s.1 (by simpa using h2)
    refine⟨fun b hb x hx=>?_,List.pairwise_cons.2 ⟨i1 s rfl,i2⟩,fun x hx=>?_⟩
    ·rcases List.mem_cons.1 hx with rfl|hx
     ·exact hb0 b hb
     ·exact q4n (hb0 b hb) (i1 s rfl x hx)
    ·rcases List.mem_cons.1 hx with rfl|hx
     ·simpa using h1
     ·exact i3 x hx
theorem v8o{fs:Tx->Bool}:∀{l:List q1k} {p:Option Tx},mtE fs false p l=0->(∀b,p=some b->∀x,x∈l->Op.bytesLess b x.Name=true)/\l.Pairwise (fun a b=>Op.bytesLess a.Name b.Name=true)/\∀x,x∈l->nm x.Name=true/\fs x.Func=true
 |[],p,_=>⟨by simp,List.Pairwise.nil,by simp⟩
 |s::l,p,h=>by
  rw[mtE] at h
  split at h
  ·rename_i hc;exact absurd h hc
  ·rename_i hc
   obtain⟨h1,h2⟩:=z9o (s:=s.Name) (p:=p) (by simpa using hc)
   split at h
   ·simp at h
   ·rename_i h3
    obtain⟨i1,i2,i3⟩:=v8o h
    refine⟨fun b hb x hx=>?_,List.pairwise_cons.2 ⟨i1 s.Name rfl,i2⟩,fun x hx=>?_⟩
    ·rcases List.mem_cons.1 hx with rfl|hx
     ·exact h2 b hb
     ·exact q4n (h2 b hb) (i1 s.Name rfl x hx)
    ·rcases List.mem_cons.1 hx with rfl|hx
     ·exact⟨h1,by simpa using h3⟩
     ·exact i3 x hx
structure w1u(x:q0f):Prop where
 nam:nm x.Name=true
 ne:x.Methods≠[]
 len:x.Methods.length<=200
 srt:x.Methods.Pairwise (fun a b=>Op.bytesLess a b=true)
 mn:∀s,s∈x.Methods->nm s=true
theorem v7p:∀{l:List q0f} {p:Option Tx},ifE p l=0->(∀b,p=some b->∀x,x∈l->Op.bytesLess b x.Name=true)/\l.Pairwise (fun a b=>Op.bytesLess a.Name b.Name=true)/\∀x,x∈l->w1u x
 |[],p,_=>⟨by simp,List.Pairwise.nil,by simp⟩
 |s::l,p,h=>by
  rw[ifE] at h
  split at h
  ·rename_i hc;exact absurd h hc
  ·rename_i hc
   obtain⟨h1,h2⟩:=z9o (s:=s.Name) (p:=p) (by simpa using hc)
   split at h
   ·simp at h
   ·rename_i h3
    split at h
    ·simp at h
    ·rename_i h4
     split at h
     ·rename_i h5;exact absurd h h5
     ·rename_i h5
      obtain⟨_,m2,m3⟩:=j3o (show q7t none s.Methods=0 by simpa using h5)
      obtain⟨i1,i2,i3⟩:=v7p h
      refine⟨fun b hb x hx=>?_,List.pairwise_cons.2 ⟨i1 s.Name rfl,i2⟩,fun x hx=>?_⟩
      ·rcases List.mem_cons.1 hx with rfl|hx
       ·exact h2 b hb
       ·exact q4n (h2 b hb) (i1 s.Name rfl x hx)
      ·rcases List.mem_cons.1 hx with rfl|hx
       ·exact⟨h1,h3,by omega,m2,m3⟩
       ·exact i3 x hx
structure w0u(fs:Tx->Bool)(x:q7i):Prop where
 nam:nm x.Name=true
 len:x.Methods.length<=200
 srt:x.Methods.Pairwise (fun a b=>Op.bytesLess a.Name b.Name=true)
 mn:∀s,s∈x.Methods->nm s.Name=true/\fs s.Func=true
theorem v5l{fs:Tx->Bool}:∀{l:List q7i} {p:Option Tx},tyE fs false p l=0->(∀b,p=some b->∀x,x∈l->Op.bytesLess b x.Name=true)/\l.Pairwise (fun a b=>Op.bytesLess a.Name b.Name=true)/\∀x,x∈l->w0u fs x
 |[],p,_=>⟨by simp,List.Pairwise.nil,by simp⟩
 |s::l,p,h=>by
  rw[tyE] at h
  split at h
  ·rename_i hc;exact absurd h hc
  ·rename_i hc
   obtain⟨h1,h2⟩:=z9o (s:=s.Name) (p:=p) (by simpa using hc)
   split at h
   ·simp at h
   ·rename_i h4
    split at h
    ·rename_i h5;exact absurd h h5
    ·rename_i h5
     obtain⟨_,m2,m3⟩:=v8o (show mtE fs false none s.Methods=0 by simpa using h5)
     obtain⟨i1,i2,i3⟩:=v5l h
     refine⟨fun b hb x hx=>?_,List.pairwise_cons.2 ⟨i1 s.Name rfl,i2⟩,fun x hx=>?_⟩
     ·rcases List.mem_cons.1 hx with rfl|hx
      ·exact h2 b hb
      ·exact q4n (h2 b hb) (i1 s.Name rfl x hx)
     ·rcases List.mem_cons.1 hx with rfl|hx
      ·exact⟨h1,by omega,m2,m3⟩
      ·exact i3 x hx
structure w8g(fs:Tx->Bool)(is:Tx->Option (List Tx))(c:q6c):Prop where
 feat:c.Feature=[]\/nm c.Feature=true
 kind:(c.Kind=1/\fs c.Target=true/\c.Method=[])\/(c.Kind=2/\∃l,is c.Target=some l/\c.Method∈l)
theorem w5o{fs:Tx->Bool}{is:Tx->Option (List Tx)}{c:q6c}(h:clE fs is false c=0):w8g fs is c:=by
 unfold clE at h
 have tail:(if c.Feature≠[]/\nm c.Feature=false then (8:Int) else 0)=0->c.Feature=[]\/nm c.Feature=true:=by
  intro h
  split at h
  ·simp at h
  ·rename_i hc
   by_cases h1:c.Feature=[]
   ·exact .inl h1
   ·refine .inr ?_
    cases h2:nm c.Feature
    ·exact absurd ⟨h1,h2⟩ hc
    ·rfl
 split at h
 ·rename_i k1
  split at h
  ·simp at h
  ·rename_i h1
   split at h
   ·simp at h
   ·rename_i h2
    exact⟨tail h,.inl ⟨k1,by simpa using h1,by simpa using h2⟩⟩
 ·split at h
  ·rename_i k1 k2
   split at h
   ·simp at h
   ·rename_i h1
    refine⟨tail h,.inr ⟨k2,?_⟩⟩
    cases hi:is c.Target with
    |none=>rw[hi] at h1;simp at h1
    |some l=>rw[hi] at h1;exact⟨l,rfl,by simpa using h1⟩
  ·simp at h
theorem v6q{fs:Tx->Bool}{is:Tx->Option (List Tx)}:∀{l:List q6c},csE fs is false l=0->∀c,c∈l->w8g fs is c
 |[],_,c,hc=>by simp at hc
 |x::l,h,c,hc=>by
  rw[csE] at h
  split at h
  ·rename_i h1;exact absurd h h1
  ·rename_i h1
   rcases List.mem_cons.1 hc with rfl|hc
   ·exact w5o (by simpa using h1)
   ·exact v6q h c hc
structure w2u(fs ts:Tx->Bool)(is:Tx->Option (List Tx))(x:q5e):Prop where
 nam:nm x.Name=true
 comp:nm x.Component=true
 len:x.Calls.length<=200
 calls:∀c,c∈x.Calls->w8g fs is c
 msrt:x.Makes.Pairwise (fun a b=>Op.bytesLess a b=true)
 makes:∀t,t∈x.Makes->ts t=true
theorem v3q{fs ts:Tx->Bool}{is:Tx->Option (List Tx)}:∀{l:List q5e} {p:Option Tx},fnE fs ts is false p l=0->(∀b,p=some b->∀x,x∈l->Op.bytesLess b x.Name=true)/\l.Pairwise (fun a b=>Op.bytesLess a.Name b.Name=true)/\∀x,x∈l->w2u fs ts is x
 |[],p,_=>⟨by simp,List.Pairwise.nil,by simp⟩
 |s::l,p,h=>by
  rw[fnE] at h
  split at h
  ·rename_i hc;exact absurd h hc
  ·rename_i hc
   obtain⟨h1,h2⟩:=z9o (s:=s.Name) (p:=p) (by simpa using hc)
   split at h
   ·simp at h
   ·rename_i h3
    split at h
    ·simp at h
    ·rename_i h4
     split at h
     ·rename_i h5;exact absurd h h5
     ·rename_i h5
      split at h
      ·rename_i h6;exact absurd h h6
      ·rename_i h6
       obtain⟨_,m2,m3⟩:=j7u (show lsE ts false none s.Makes=0 by simpa using h6)
       obtain⟨i1,i2,i3⟩:=v3q h
       refine⟨fun b hb x hx=>?_,List.pairwise_cons.2 ⟨i1 s.Name rfl,i2⟩,fun x hx=>?_⟩
       ·rcases List.mem_cons.1 hx with rfl|hx
        ·exact h2 b hb
        ·exact q4n (h2 b hb) (i1 s.Name rfl x hx)
       ·rcases List.mem_cons.1 hx with rfl|hx
        ·exact⟨h1,by simpa using h3,by omega,v6q (by simpa using h5),m2,m3⟩
        ·exact i3 x hx
structure q0h(g:q7c):Prop where
 il:g.Ifaces.length<=200
 tl:g.Types.length<=500
 fl:g.Funcs.length<=3000
 isrt:g.Ifaces.Pairwise (fun a b=>Op.bytesLess a.Name b.Name=true)
 tsrt:g.Types.Pairwise (fun a b=>Op.bytesLess a.Name b.Name=true)
 fsrt:g.Funcs.Pairwise (fun a b=>Op.bytesLess a.Name b.Name=true)
 i:∀x,x∈g.Ifaces->w1u x
 t:∀x,x∈g.Types->w0u (q4q g) x
 f:∀x,x∈g.Funcs->w2u (q4q g) (j3t g) (w0n g) x
 esrt:g.Entries.Pairwise (fun a b=>Op.bytesLess a b=true)
 e:∀s,s∈g.Entries->q4q g s=true
theorem v9m{g:q7c}(h:chk false g=0):q0h g:=by
 unfold chk at h
 split at h
 ·simp at h
 split at h
 ·simp at h
 split at h
 ·simp at h
 rename_i h1 h2 h3
 split at h
 ·rename_i h4;exact absurd h h4
 split at h
 ·rename_i h5;exact absurd h h5
 split at h
 ·rename_i h6;exact absurd h h6
 rename_i h4 h5 h6
 obtain⟨_,a2,a3⟩:=v7p (show ifE none g.Ifaces=0 by simpa using h4)
 obtain⟨_,b2,b3⟩:=v5l (show tyE (q4q g) false none g.Types=0 by simpa using h5)
 obtain⟨_,c2,c3⟩:=v3q (show fnE (q4q g) (j3t g) (w0n g) false none g.Funcs=0 by simpa using h6)
 obtain⟨_,d2,d3⟩:=j7u h
 exact⟨by omega,by omega,by omega,a2,b2,c2,a3,b3,c3,d2,d3⟩
theorem v0l(F:Nat)(a b:Tx):M100 F a b=some (if Op.bytesLess a b=true then -1 else if a=b then 0 else 1):=by
 unfold M100 M158
 simp only[beq_self_eq_true,Bool.not_true,Option.bind_some,Bool.false_eq_true,if_false]
 by_cases h:Op.bytesLess a b=true
 ·simp[h]
 ·by_cases h2:a=b
  ·subst h2;simp[q9o]
  ·simp[h,h2]
def mlt(x:Tx)(m:q1k):Bool:=Op.bytesLess m.Name x
theorem v1k(F:Nat)(a:List q1k)(x:Tx)(k:Int->Option (Int×Bool))(hlen:a.length<=100000)(hs:a.Pairwise (fun p q=>Op.bytesLess p.Name q.Name=true)):
  ∀(n i j:Nat),i<=j->j<=a.length->j - i<n->(∀q (h:q<a.length),q<i->mlt x a[q]=true)->(∀q (h:q<a.length),j<=q->mlt x a[q]=false)->
  ∃p:Nat,p<=a.length/\q3y F a x k n i j=k p/\(∀q (h:q<a.length),q<p->mlt x a[q]=true)/\∀q (h:q<a.length),p<=q->mlt x a[q]=false
 |0,i,j,_,_,h,_,_=>by omega
 |n+1,i,j,hij,hj,hn,h1,h2=>by
  rw[q3y]
  by_cases hc:i<j
  ·have hm:(i+j) / 2<a.length:=by omega
   rw[z4y (by omega),y5a (by omega),q2h hm,Option.bind_some]
   unfold y4c
   rw[v0l,Option.bind_some,Option.bind_some]
   simp only[q2e]
   by_cases hl:Op.bytesLess (a[(i+j) / 2]).Name x=true
   ·rw[if_pos hl,z4y (by omega),show w64 ((((i+j) / 2:Nat):Int)+1)=(((i+j) / 2+1:Nat):Int) by rw[q9w (by omega) (by omega)];rfl]
    refine v1k F a x k hlen hs n ((i+j) / 2+1) j (by omega) hj (by omega) (fun q h hq=>?_) h2
    rcases Nat.lt_or_ge q ((i+j) / 2) with hq2|hq2
    ·have:=List.pairwise_iff_getElem.1 hs q ((i+j) / 2) h hm hq2
     exact q4n this hl
    ·have:q=(i+j) / 2:=by omega
     subst this;exact hl
   ·rw[if_neg hl]
    have e:(if decide ((if a[(i+j) / 2].Name=x then (0:Int) else 1)<0)=true then q3y F a x k n (w64 ((((i+j) / 2:Nat):Int)+1)) j else q3y F a x k n i (((i+j) / 2:Nat):Int))=q3y F a x k n i (((i+j) / 2:Nat):Int):=by
     have hh:¬((if a[(i+j) / 2].Name=x then (0:Int) else 1)<0):=by split<;>omega
     rw[z7z hh]
    rw[e]
    refine v1k F a x k hlen hs n i ((i+j) / 2) (by omega) (by omega) (by omega) h1 (fun q h hq=>?_)
    have hl:Op.bytesLess (a[(i+j) / 2]).Name x=false:=by simpa using hl
    rcases Nat.lt_or_ge ((i+j) / 2) q with hq2|hq2
    ·have:=List.pairwise_iff_getElem.1 hs ((i+j) / 2) q hm h hq2
     unfold mlt
     cases hh:Op.bytesLess (a[q]).Name x
     ·rfl
     ·rw[q4n this hh] at hl;simp at hl
    ·have:q=(i+j) / 2:=by omega
     subst this;exact hl
  ·have:i=j:=by omega
   subst this
   rw[z7z (by omega)]
   exact⟨i,hj,rfl,h1,h2⟩
def mOf(t:q7i)(m:Tx):Tx×Bool:=match t.Methods.find? (fun y=>y.Name==m) with|some y=>(y.Func,true)|none=>([],false)
theorem v8k(F:Nat)(t:q7i)(x:Tx)(hlen:t.Methods.length<=200)(hs:t.Methods.Pairwise (fun p q=>Op.bytesLess p.Name q.Name=true))(hF:1000<=F):M169 F t x=some (mOf t x):=by
 unfold M169 M207 mOf
 simp only[q2e]
 obtain⟨p,p1,p2,p3,p4⟩:=v1k F t.Methods x (fun n4=>if decide (n4<((t.Methods.length:Nat):Int))=true then (idx t.Methods n4).bind fun x19=>(y4c F x19 x).bind fun y21=>some (n4,y21==0) else some (n4,false)) (by omega) hs F 0 t.Methods.length (by omega) (Nat.le_refl _) (by omega) (fun q h hq=>by omega) (fun q h hq=>by omega)
 rw[show((0:Nat):Int)=0 from rfl] at p2
 rw[p2]
 by_cases hp:p<t.Methods.length
 ·rw[z4y (by omega),q2h hp,Option.bind_some]
  unfold y4c
  rw[v0l,Option.bind_some,Option.bind_some,Option.bind_some]
  have hlt:Op.bytesLess (t.Methods[p]).Name x=false:=p4 p hp (Nat.le_refl _)
  have ec:(if Op.bytesLess (t.Methods[p]).Name x=true then (-1:Int) else if (t.Methods[p]).Name=x then 0 else 1)=if (t.Methods[p]).Name=x then 0 else 1:=by rw[if_neg (by simp[hlt])]
  rw[ec]
  by_cases he:(t.Methods[p]).Name=x
  ·rw[if_pos he]
   have hf:t.Methods.find? (fun y=>y.Name==x)=some t.Methods[p]:=by
    rw[List.find?_eq_some_iff_getElem]
    refine⟨by simp[he],p,hp,rfl,fun j hj=>?_⟩
    have:=p3 j (by omega) hj
    unfold mlt at this
    simpa using z7y this
   rw[hf]
   simp[q2h hp]
  ·rw[if_neg he]
   have hf:t.Methods.find? (fun y=>y.Name==x)=none:=by
    rw[List.find?_eq_none]
    intro y hy
    obtain⟨q,hq,rfl⟩:=List.getElem_of_mem hy
    rcases Nat.lt_trichotomy q p with h|h|h
    ·have:=p3 q hq h
     unfold mlt at this
     simpa using z7y this
    ·subst h;simpa using he
    ·have h2:=List.pairwise_iff_getElem.1 hs p q hp hq h
     have h3:Op.bytesLess x (t.Methods[p]).Name=true:=by
      rcases z8k (t.Methods[p]).Name x with g|g|g
      ·rw[g] at hlt;simp at hlt
      ·exact absurd g he
      ·exact g
     have:=z7y (q4n h3 h2)
     simpa using fun e=>this e.symm
   rw[hf]
   simp
 ·rw[z7z (by omega)]
  have hf:t.Methods.find? (fun y=>y.Name==x)=none:=by
   rw[List.find?_eq_none]
   intro y hy
   obtain⟨q,hq,rfl⟩:=List.getElem_of_mem hy
   have:=p3 q hq (by omega)
   unfold mlt at this
   simpa using z7y this
  rw[hf]
  simp
def j1p(t:q7i)(x:q0f):Bool:=x.Methods.all fun m=>(mOf t m).2
theorem y2d(F:Nat)(t:q7i)(x:q0f)(hlen:t.Methods.length<=200)(hs:t.Methods.Pairwise (fun p q=>Op.bytesLess p.Name q.Name=true))(hF:1000<=F):M117 F t x=some (j1p t x):=by
 unfold M117 j1p
 rw[q2e]
 generalize x.Methods=l
 induction l with
 |nil=>rfl
 |cons m l ih=>
  rw[z8u,v8k F t m hlen hs hF,Option.bind_some,ih,List.all_cons]
  cases (mOf t m).2<;>simp
abbrev w5q:=List (Tx×Int)
def v3g(m:w5q):Int->List Tx->w5q
 |_,[]=>m
 |n,x::l=>v3g (q0g m x n) (n+1) l
theorem z3s(x:Tx):∀(l:List Tx) (m:w5q) (n:Int),x ∉ l->q6b (v3g m n l) x=q6b m x
 |[],m,n,_=>rfl
 |y::l,m,n,h=>by
  rw[v3g,z3s x l _ _ (fun hh=>h (List.mem_cons_of_mem _ hh)),q6j,if_neg (fun e=>h (by rw[e];simp))]
theorem z5a:∀(l:List Tx) (m:w5q) (n:Int) (i:Nat) (h:i<l.length),l.Pairwise (fun a b=>Op.bytesLess a b=true)->q6b (v3g m n l) l[i]=some (n+i)
 |[],m,n,i,h,_=>by simp at h
 |x::l,m,n,0,h,hp=>by
  have hp:=List.pairwise_cons.1 hp
  rw[v3g,List.getElem_cons_zero,z3s x l _ _ (fun hh=>z7y (hp.1 x hh) rfl),q6j,if_pos rfl];simp
 |x::l,m,n,i+1,h,hp=>by
  have hp:=List.pairwise_cons.1 hp
  rw[v3g,List.getElem_cons_succ,z5a l _ (n+1) i (by simpa using h) hp.2]
  congr 1;omega
theorem v2f{F:Nat}(k:w5q->Option (Option q1b)):∀(l:List q5e) (n:Int) (m:w5q),j9i F k l n m=k (v3g m n (l.map (·.Name)))
 |[],n,m=>rfl
 |x::l,n,m=>by rw[j9i,v2f k l];rfl
theorem v1f{F:Nat}(k:w5q->Option (Option q1b)):∀(l:List q7i) (n:Int) (m:w5q),j8i F k l n m=k (v3g m n (l.map (·.Name)))
 |[],n,m=>rfl
 |x::l,n,m=>by rw[j8i,v1f k l];rfl
theorem v9e{F:Nat}(k:j0k->Option (Option q1b)):∀(l:List Tx) (m:j0k),j5i F k l m=k (z2s m l)
 |[],m=>rfl
 |x::l,m=>by rw[j5i,v9e k l];rfl
abbrev w4j:=List (Tx×List Int)
def q9l(x:q0f):Int->List q7i->List Int
 |_,[]=>[]
 |n,t::l=>if j1p t x=true then n::q9l x (n+1) l else q9l x (n+1) l
theorem z4t(x:q0f):∀(l:List q7i) (n:Int),(q9l x n l).length<=l.length
 |[],n=>by simp[q9l]
 |t::l,n=>by
  have:=z4t x l (n+1)
  rw[q9l]
  split<;>simp<;>omega
theorem z3t(x:q0f):∀(l:List q7i) (n:Int) (t:Int),t∈q9l x n l<->∃i:Nat,∃h:i<l.length,t=n+i/\j1p l[i] x=true
 |[],n,t=>by simp[q9l]
 |y::l,n,t=>by
  have ih:=z3t x l (n+1) t
  rw[q9l]
  constructor
  ·intro h
   have:(t=n/\j1p y x=true)\/t∈q9l x (n+1) l:=by
    split at h
    ·rename_i hf
     rcases List.mem_cons.1 h with rfl|h
     ·exact .inl ⟨rfl,hf⟩
     ·exact .inr h
    ·exact .inr h
   rcases this with ⟨rfl,hf⟩|h
   ·exact⟨0,by simp,by simp,hf⟩
   ·obtain⟨i,h1,h2,h3⟩:=ih.1 h
    exact⟨i+1,by simpa using h1,by rw[h2];omega,h3⟩
  ·rintro⟨i,h1,h2,h3⟩
   cases i with
   |zero=>
    have h3:j1p y x=true:=h3
    rw[if_pos h3];simp at h2;simp[h2]
   |succ i=>
    have:t∈q9l x (n+1) l:=ih.2 ⟨i,by simpa using h1,by rw[h2];omega,h3⟩
    split
    ·exact List.mem_cons_of_mem _ this
    ·exact this
def v3n(T:List q7i)(m:w4j)(x:q0f):w4j:=if (q9l x 0 T).isEmpty=true then m else q0g m x.Name ((q6b m x.Name).getD []++q9l x 0 T)
theorem j6i(F:Nat)(x:q0f)(k:w4j->Option (Option q1b))(hF:1000<=F):∀(l:List q7i) (n:Int) (m:w4j),(∀t,t∈l->t.Methods.length<=200/\t.Methods.Pairwise (fun p q=>Op.bytesLess p.Name q.Name=true))->
  ((q6b m x.Name).getD []).length+l.length<=100000->z4x F x k l n m=k (if (q9l x n l).isEmpty=true then m else q0g m x.Name ((q6b m x.Name).getD []++q9l x n l))
 |[],n,m,_,_=>by simp[z4x,q9l]
 |t::l,n,m,ht,hb=>by
  obtain⟨t1,t2⟩:=ht t (by simp)
  simp only[List.length_cons] at hb
  rw[z4x,y2d F t x t1 t2 hF,Option.bind_some]
  simp only[q2e]
  by_cases hf:j1p t x=true
  ·rw[show q9l x n (t::l)=n::q9l x (n+1) l by rw[q9l,if_pos hf]]
   rw[if_pos hf,if_pos (by simp;omega),j6i F x k hF l (n+1) _ (fun q hq=>ht q (List.mem_cons_of_mem _ hq)) (by rw[q6j,if_pos rfl];simp;omega)]
   congr 1
   rw[q6j,if_pos rfl,Option.getD_some,if_neg (show ¬(n::q9l x (n+1) l).isEmpty=true by simp)]
   split
   ·rename_i he;rw[List.isEmpty_iff.1 he]
   ·rw[j4c];simp
  ·rw[show q9l x n (t::l)=q9l x (n+1) l by rw[q9l,if_neg hf]]
   rw[if_neg hf,j6i F x k hF l (n+1) m (fun q hq=>ht q (List.mem_cons_of_mem _ hq)) (by omega)]
def fitM(T:List q7i)(m:w4j):List q0f->w4j
 |[]=>m
 |x::l=>fitM T (v3n T m x) l
theorem j5n(T:List q7i)(m:w4j)(x:q0f)(n:Tx):(q6b (v3n T m x) n).getD []=(q6b m n).getD []++if x.Name=n then q9l x 0 T else []:=by
 unfold v3n
 by_cases h:q9l x 0 T=[]
 ·rw[if_pos (by rw[h];rfl),h];simp
 ·rw[if_neg (by simpa using h),q6j]
  by_cases h2:x.Name=n
  ·subst h2;simp
  ·rw[if_neg h2,if_neg h2];simp
theorem v0f(F:Nat)(g:q7c)(k:w4j->Option (Option q1b))(hF:1000<=F)(hT:∀t,t∈g.Types->t.Methods.length<=200/\t.Methods.Pairwise (fun p q=>Op.bytesLess p.Name q.Name=true))(htl:g.Types.length<=500):
  ∀(l:List q0f) (m:w4j),l.Pairwise (fun a b=>Op.bytesLess a.Name b.Name=true)->(∀x,x∈l->(q6b m x.Name).getD []=[])->j7i F g k l m=k (fitM g.Types m l)
 |[],m,_,_=>rfl
 |x::l,m,hp,hm=>by
  have hp:=List.pairwise_cons.1 hp
  rw[j7i]
  simp only[q2e]
  rw[j6i F x _ hF g.Types 0 m hT (by rw[hm x (by simp)];simp;omega)]
  rw[v0f F g k hF hT htl l _ hp.2 (fun y hy=>by
   have:=j5n g.Types m x y.Name
   unfold v3n at this
   rw[this,hm y (List.mem_cons_of_mem _ hy),if_neg (z7y (hp.1 y hy))];rfl)]
  rfl
theorem z8i(T:List q7i)(n:Tx):∀(l:List q0f) (m:w4j),l.Pairwise (fun a b=>Op.bytesLess a.Name b.Name=true)->(q6b (fitM T m l) n).getD []=(q6b m n).getD []++((l.find? fun x=>x.Name==n).elim [] fun x=>q9l x 0 T)
 |[],m,_=>by simp[fitM]
 |x::l,m,hp=>by
  have hp:=List.pairwise_cons.1 hp
  rw[fitM,z8i T n l _ hp.2,j5n,List.find?_cons]
  by_cases h:x.Name=n
  ·have h2:l.find? (fun x=>x.Name==n)=none:=by
    rw[List.find?_eq_none]
    intro y hy
    have:=z7y (hp.1 y hy)
    rw[h] at this
    simpa using fun e=>this e.symm
   rw[if_pos h,h2,show(x.Name==n)=true by simpa using h];simp
  ·rw[if_neg h,show(x.Name==n)=false by simpa using h];simp
def wOf(g:q7c)(how:Int)(fs:List Tx):q1b:=
 q1b.mk g (v3g [] 0 (g.Funcs.map (·.Name))) (v3g [] 0 (g.Types.map (·.Name))) (fitM g.Types [] g.Ifaces) (z2s (q0g [] [] true) fs) (how==2)
theorem M41_eq(F:Nat)(g:q7c)(how:Int)(fs:List Tx)(R:q0h g)(hF:1000<=F):M41 F g how fs=some (some (wOf g how fs)):=by
 unfold M41
 simp only[q2e,v2f,v1f,v9e]
 rw[v0f F g _ hF (fun t ht=>⟨(R.t t ht).len,(R.t t ht).srt⟩) R.tl g.Ifaces [] R.isrt (fun x _=>rfl)]
 rfl
def z7v(g:q7c)(how:Int)(fs:List Tx):Int:=if chk false g≠0 then chk false g else if feE fs≠0 then feE fs else if how=1\/how=2 then 0 else 7
theorem w4u(F:Nat)(g:q7c)(how:Int)(fs:List Tx)(hg:q2o g)(hfs:∀x,x∈fs->x.length<=maxLen)(hF:1000<=F):M78 F g how fs=some (if z7v g how fs≠0 then none else some (wOf g how fs),z7v g how fs):=by
 unfold M78 z7v
 rw[M17_eq F g hg,Option.bind_some,y1d F fs hfs,Option.bind_some]
 by_cases h1:chk false g=0
 ·rw[if_neg (by simp[h1]),if_neg (show ¬chk false g≠0 by simp[h1])]
  by_cases h2:feE fs=0
  ·rw[if_neg (by simp[h2]),if_neg (show ¬feE fs≠0 by simp[h2]),M41_eq F g how fs (v9m h1) hF]
   by_cases h3:how=1
   ·simp[h3]
   ·by_cases h4:how=2
    ·simp[h4]
    ·simp[h3,h4]
  ·rw[if_pos (by simpa using h2),if_pos h2];simp[h2]
 ·rw[if_pos (by simpa using h1),if_pos h1];simp[h1]
end Go.Proofs.YtpbkggamiipdmaaGreat
