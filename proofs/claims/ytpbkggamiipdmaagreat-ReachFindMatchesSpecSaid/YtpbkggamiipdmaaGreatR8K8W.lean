/- Part of the proof: K8A, K8B, K8C, K8D, K8W. -/
import Derived.Test.YtpbkggamiipdmaaGreatR8Z8M
import Derived.Test.YtpbkggamiipdmaaGreatR8Z8O
namespace Go.Proofs.YtpbkggamiipdmaaGreat
open Go Go.Pv
set_option linter.unusedVariables false
set_option linter.unusedSimpArgs false
set_option maxRecDepth 100000
abbrev Tx:=B8
def vis(c:UInt8):Bool:=decide (33<=c.toNat)&&decide (c.toNat<=126)&&!decide (c.toNat=35)
def nm(s:Tx):Bool:=s.all vis&&decide (1<=s.length)&&decide (s.length<=100)
def le(a b:Tx):Bool:=Op.bytesLess a b||a==b
theorem le_nil{s:Tx}(h:nm s=true):le s []=false:=by
 cases s with
 |nil=>simp[nm] at h
 |cons c s=>simp[le,Op.bytesLess]
theorem le_iff{a b:Tx}:le a b=false<->Op.bytesLess b a=true:=by
 unfold le
 rcases z7i a b with h|h|h
 ·simp[h,q5r h]
 ·subst h;simp[q9n]
 ·simp[h,q5r h,(bl_ne h).symm]
theorem M79_eq(F:Nat)(s:Tx)(h:s.length<=maxLen):M79 F s=some (nm s):=by
 have h':(s.length:Int)<=9223372036854775807:=by have:s.length<=9223372036854775807:=h;omega
 unfold M79
 rw[q3e,if_pos h',Int.toNat_natCast]
 generalize hk:(if (!(s==[]))=true then some (decide ((s.length:Int)<=100)) else some false)=k
 have:=bytesL (g:=M79_L1 F s k) (k:=k) (f:=false) s vis (fun _=>rfl) (fun m n=>by
  rw[M79_L1]
  cases hi:idx s n with
  |none=>rfl
  |some c=>
   simp only[Option.bind_some]
   by_cases h1:c.toNat<33
   ·rw[if_t (by omega)];simp[vis];omega
   ·rw[if_f (by omega)]
    by_cases h2:c.toNat>126
    ·rw[if_t (by omega)];simp[vis];omega
    ·rw[if_f (by omega)]
     by_cases h3:c.toNat=35
     ·rw[if_pos (by simp[h3])];simp[vis,h3]
     ·rw[if_neg (by simp;omega),if_pos];simp[vis];omega) s.length 0 (by omega)
 rw[show((0:Nat):Int)=0 from rfl] at this
 rw[this,List.drop_zero,<-hk]
 unfold nm
 cases s.all vis
 ·simp
 ·cases s with
  |nil=>simp
  |cons c s=>simp only[if_true,Bool.true_and];rw[if_pos (by simp)];congr 1;rw[Bool.eq_iff_iff];simp only[decide_eq_true_eq,Bool.and_eq_true,List.length_cons];omega
theorem M82_eq(F:Nat)(s:Tx)(h:s.length<=maxLen):M82 F s=some (nm s):=by
 have h':(s.length:Int)<=9223372036854775807:=by have:s.length<=9223372036854775807:=h;omega
 unfold M82
 rw[q3e,if_pos h',Int.toNat_natCast]
 generalize hk:(if decide ((s.length:Int)>=1)=true then some (decide ((s.length:Int)<=100)) else some false)=k
 have:=bytesL (g:=M82_L1 F s k) (k:=k) (f:=false) s vis (fun _=>rfl) (fun m n=>by
  rw[M82_L1]
  cases hi:idx s n with
  |none=>rfl
  |some c=>
   simp only[Option.bind_some]
   by_cases h1:c.toNat<33
   ·rw[if_t (by omega)];simp[vis];omega
   ·rw[if_f (by omega)]
    by_cases h2:c.toNat>126
    ·rw[if_t (by omega)];simp[vis];omega
    ·rw[if_f (by omega)]
     by_cases h3:c.toNat=35
     ·rw[if_pos (by simp[h3])];simp[vis,h3]
     ·rw[if_neg (by simp;omega),if_pos];simp[vis];omega) s.length 0 (by omega)
 rw[show((0:Nat):Int)=0 from rfl] at this
 rw[this,List.drop_zero,<-hk]
 unfold nm
 cases s.all vis
 ·simp
 ·simp only[if_true,Bool.true_and]
  by_cases h1:1<=s.length
  ·rw[if_t (by omega)];congr 1;rw[Bool.eq_iff_iff];simp only[decide_eq_true_eq,Bool.and_eq_true];omega
  ·rw[if_f (by omega)];congr 1;symm;rw[Bool.eq_false_iff];simp only[decide_eq_true_eq,Bool.and_eq_true,ne_eq];omega
def nmd(s before:Tx)(first:Bool):Int:=if !nm s then 8 else if !first then (if le s before then 10 else 0) else 0
theorem M173_eq(F:Nat)(s b:Tx)(f:Bool)(h:s.length<=maxLen):M173 F s b f=some (nmd s b f):=by
 unfold M173 nmd
 rw[M79_eq F s h,Option.bind_some,q3e]
 cases nm s
 ·simp
 ·cases f
  ·simp[le];split<;>rfl
  ·simp
def nme(s:Tx)(p:Option Tx):Int:=if !nm s then 8 else match p with|some b=>if le s b then 10 else 0|none=>0
theorem nmd_first(s b:Tx):nmd s b true=nme s none:=by unfold nmd nme;cases nm s<;>rfl
theorem nmd_next(s b:Tx):nmd s b false=nme s (some b):=by unfold nmd nme;cases nm s<;>rfl
theorem z7m{s:Tx}{p:Option Tx}(h:nme s p=0):nm s=true/\∀b,p=some b->Op.bytesLess b s=true:=by
 unfold nme at h
 cases hn:nm s
 ·simp[hn] at h
 ·refine⟨rfl,fun b hb=>?_⟩
  subst hb
  simp only[hn,Bool.not_true,Bool.false_eq_true,if_false] at h
  split at h
  ·simp at h
  ·rename_i hl;exact le_iff.1 (by simpa using hl)
abbrev SetM:=List (Tx×Bool)
def sset(m:SetM):List Tx->SetM
 |[]=>m
 |x::l=>sset (q7f m x true) l
def has(m:SetM)(x:Tx):Bool:=(q8b m x).getD false
theorem has_sset(x:Tx):∀(l:List Tx) (m:SetM),has (sset m l) x=(has m x||l.contains x)
 |[],m=>by simp[sset]
 |y::l,m=>by
  rw[sset,has_sset x l,List.contains_cons]
  unfold has
  rw[q9i]
  by_cases h:y=x
  ·subst h;simp
  ·rw[if_neg h]
   have:(x==y)=false:=by simpa using fun e=>h e.symm
   rw[this,Bool.false_or]
theorem z8j(x:Tx)(l:List Tx):has (sset [] l) x=l.contains x:=by rw[has_sset];simp[has,q8b]
def q1t:Option Tx->List Tx->Int
 |_,[]=>0
 |p,s::l=>if nme s p≠0 then nme s p else q1t (some s) l
def ifE:Option Tx->List q4e->Int
 |_,[]=>0
 |p,x::l=>if nme x.Name p≠0 then nme x.Name p else if x.Methods=[] then 13 else if 200<x.Methods.length then 3 else if q1t none x.Methods≠0 then q1t none x.Methods else ifE (some x.Name) l
def mtE(fs:Tx->Bool)(lo:Bool):Option Tx->List q6j->Int
 |_,[]=>0
 |p,m::l=>if nme m.Name p≠0 then nme m.Name p else if (!lo&&!fs m.Func)=true then 4 else mtE fs lo (some m.Name) l
def tyE(fs:Tx->Bool)(lo:Bool):Option Tx->List q0i->Int
 |_,[]=>0
 |p,x::l=>if nme x.Name p≠0 then nme x.Name p else if 200<x.Methods.length then 3 else if mtE fs lo none x.Methods≠0 then mtE fs lo none x.Methods else tyE fs lo (some x.Name) l
def clE(fs:Tx->Bool)(is:Tx->Option (List Tx))(lo:Bool)(c:q8c):Int:=
 if c.Kind=1 then (if (!lo&&!fs c.Target)=true then 4 else if c.Method≠[] then 2 else if c.Feature≠[]/\nm c.Feature=false then 8 else 0)
 else if c.Kind=2 then (if (!lo&&!((is c.Target).elim false fun l=>l.contains c.Method))=true then 4 else if c.Feature≠[]/\nm c.Feature=false then 8 else 0) else 7
def csE(fs:Tx->Bool)(is:Tx->Option (List Tx))(lo:Bool):List q8c->Int
 |[]=>0
 |c::l=>if clE fs is lo c≠0 then clE fs is lo c else csE fs is lo l
def lsE(there:Tx->Bool)(lo:Bool):Option Tx->List Tx->Int
 |_,[]=>0
 |p,s::l=>if (!lo&&!there s)=true then 4 else if (p.elim false fun b=>le s b)=true then 10 else lsE there lo (some s) l
def fnE(fs ts:Tx->Bool)(is:Tx->Option (List Tx))(lo:Bool):Option Tx->List q5e->Int
 |_,[]=>0
 |p,x::l=>if nme x.Name p≠0 then nme x.Name p else if nm x.Component=false then 8 else if 200<x.Calls.length then 3 else if csE fs is lo x.Calls≠0 then csE fs is lo x.Calls else if lsE ts lo none x.Makes≠0 then lsE ts lo none x.Makes else fnE fs ts is lo (some x.Name) l
def ifm(m:List (Tx×q4e)):List q4e->List (Tx×q4e)
 |[]=>m
 |x::l=>ifm (q7f m x.Name x) l
def q8s(g:q3c):Tx->Bool:=fun x=>(g.Funcs.map (·.Name)).contains x
def tsOf(g:q3c):Tx->Bool:=fun x=>(g.Types.map (·.Name)).contains x
def isOf(g:q3c):Tx->Option (List Tx):=fun x=>(q8b (ifm [] g.Ifaces) x).map (·.Methods)
def chk(lo:Bool)(g:q3c):Int:=
 if 200<g.Ifaces.length then 3 else if 500<g.Types.length then 3 else if 3000<g.Funcs.length then 3
 else if ifE none g.Ifaces≠0 then ifE none g.Ifaces
 else if tyE (q8s g) lo none g.Types≠0 then tyE (q8s g) lo none g.Types
 else if fnE (q8s g) (tsOf g) (isOf g) lo none g.Funcs≠0 then fnE (q8s g) (tsOf g) (isOf g) lo none g.Funcs
 else lsE (q8s g) lo none g.Entries
theorem M59_L3_eq{F:Nat}(k:SetM->Option q4c):∀(l:List q5e) (m:SetM),M59_L3 F k l m=k (sset m (l.map (·.Name)))
 |[],m=>rfl
 |x::l,m=>by rw[M59_L3,M59_L3_eq k l];rfl
theorem M59_L2_eq{F:Nat}(k:SetM->Option q4c):∀(l:List q0i) (m:SetM),M59_L2 F k l m=k (sset m (l.map (·.Name)))
 |[],m=>rfl
 |x::l,m=>by rw[M59_L2,M59_L2_eq k l];rfl
theorem M59_L1_eq{F:Nat}(k:List (Tx×q4e)->Option q4c):∀(l:List q4e) (m:List (Tx×q4e)),M59_L1 F k l m=k (ifm m l)
 |[],m=>rfl
 |x::l,m=>by rw[M59_L1,M59_L1_eq k l];rfl
def kOf(g:q3c)(lo:Bool):q4c:=q4c.mk lo (ifm [] g.Ifaces) (sset [] (g.Types.map (·.Name))) (sset [] (g.Funcs.map (·.Name)))
theorem M59_eq(F:Nat)(g:q3c)(lo:Bool):M59 F g lo=some (kOf g lo):=by
 unfold M59
 simp only[q3e,M59_L1_eq,M59_L2_eq,M59_L3_eq]
 rfl
def pz(n:Int)(p:Option Tx)(s:Tx):Prop:=match p with|none=>n=0|some b=>n>0/\s=b
theorem nmd_pz{n:Int}{p:Option Tx}{s x:Tx}(h:pz n p s):nmd x s (n==0)=nme x p:=by
 cases p with
 |none=>have h:n=0:=h;subst h;exact nmd_first x s
 |some b=>
  obtain⟨h1,h2⟩:=h
  subst h2
  rw[show(n==0)=false by simp;omega];exact nmd_next x s
theorem M127_L2_eq(F:Nat)(k:Option Int):∀(l:List Tx) (n:Int) (s:Tx) (p:Option Tx),(∀x,x∈l->x.length<=maxLen)->0<=n->pz n p s->z1f F k l n s=if q1t p l≠0 then some (q1t p l) else k
 |[],n,s,p,_,_,_=>by simp[z1f,q1t]
 |x::l,n,s,p,hx,hn,hp=>by
  rw[z1f,M173_eq F x s _ (hx x (by simp)),Option.bind_some,nmd_pz hp,q1t]
  by_cases h:nme x p=0
  ·simp only[h,bne_self_eq_false,Bool.false_eq_true,ne_eq,not_true_eq_false,if_false]
   exact M127_L2_eq F k l (n+1) x (some x) (fun y hy=>hx y (List.mem_cons_of_mem _ hy)) (by omega) ⟨by omega,rfl⟩
  ·rw[if_pos (by simpa using h),if_pos h,if_pos h]
theorem M127_L1_eq(F:Nat)(k:Option Int):∀(l:List q4e) (n:Int) (s:Tx) (p:Option Tx),(∀x,x∈l->z6m x)->0<=n->pz n p s->z2f F k l n s=if ifE p l≠0 then some (ifE p l) else k
 |[],n,s,p,_,_,_=>by simp[z2f,ifE]
 |x::l,n,s,p,hx,hn,hp=>by
  obtain⟨o1,⟨o2,_⟩,_⟩:=hx x (by simp)
  rw[z2f]
  simp only[q3e]
  rw[M173_eq F x.Name s _ o1,Option.bind_some,nmd_pz hp,ifE]
  by_cases h:nme x.Name p=0
  ·simp only[h,bne_self_eq_false,Bool.false_eq_true,ne_eq,not_true_eq_false,if_false]
   by_cases h1:x.Methods=[]
   ·rw[if_pos (by simp[h1]),if_pos h1];simp
   ·rw[if_neg (by simpa using h1),if_neg h1]
    by_cases h2:200<x.Methods.length
    ·rw[if_t (by omega),if_pos h2];simp
    ·rw[if_f (by omega),if_neg h2,M127_L2_eq F _ _ 0 [] none o2 (by omega) rfl]
     by_cases h3:q1t none x.Methods=0
     ·simp only[h3,bne_self_eq_false,Bool.false_eq_true,ne_eq,not_true_eq_false,if_false]
      exact M127_L1_eq F k l (n+1) x.Name (some x.Name) (fun y hy=>hx y (List.mem_cons_of_mem _ hy)) (by omega) ⟨by omega,rfl⟩
     ·rw[if_pos h3,if_pos h3,if_pos h3]
  ·rw[if_pos (by simpa using h),if_pos h,if_pos h]
theorem M128_L2_eq(F:Nat)(a:q4c)(fs:Tx->Bool)(hf:∀x,(q8b a.funcs x).getD false=fs x)(k:Option Int):∀(l:List q6j) (n:Int) (s:Tx) (p:Option Tx),(∀x,x∈l->x.Name.length<=maxLen)->0<=n->pz n p s->z9e F a k l n s=if mtE fs a.loose p l≠0 then some (mtE fs a.loose p l) else k
 |[],n,s,p,_,_,_=>by simp[z9e,mtE]
 |x::l,n,s,p,hx,hn,hp=>by
  have ih:=M128_L2_eq F a fs hf k l (n+1) x.Name (some x.Name) (fun y hy=>hx y (List.mem_cons_of_mem _ hy)) (by omega) ⟨by omega,rfl⟩
  rw[z9e]
  simp only[q3e]
  rw[M173_eq F x.Name s _ (hx x (by simp)),Option.bind_some,nmd_pz hp,mtE,ih,hf]
  by_cases h:nme x.Name p=0
  ·simp only[h,bne_self_eq_false,Bool.false_eq_true,ne_eq,not_true_eq_false,if_false]
   cases a.loose<;>cases fs x.Func<;>simp
  ·rw[if_pos (by simpa using h),if_pos h,if_pos h]
theorem M128_L1_eq(F:Nat)(a:q4c)(fs:Tx->Bool)(hf:∀x,(q8b a.funcs x).getD false=fs x)(k:Option Int):∀(l:List q0i) (n:Int) (s:Tx) (p:Option Tx),(∀x,x∈l->okTType x)->0<=n->pz n p s->z0f F a k l n s=if tyE fs a.loose p l≠0 then some (tyE fs a.loose p l) else k
 |[],n,s,p,_,_,_=>by simp[z0f,tyE]
 |x::l,n,s,p,hx,hn,hp=>by
  obtain⟨o1,⟨o2,_⟩,_⟩:=hx x (by simp)
  rw[z0f]
  simp only[q3e]
  rw[M173_eq F x.Name s _ o1,Option.bind_some,nmd_pz hp,tyE]
  by_cases h:nme x.Name p=0
  ·simp only[h,bne_self_eq_false,Bool.false_eq_true,ne_eq,not_true_eq_false,if_false]
   by_cases h2:200<x.Methods.length
   ·rw[if_t (by omega),if_pos h2];simp
   ·rw[if_f (by omega),if_neg h2,M128_L2_eq F a fs hf _ _ 0 [] none (fun y hy=>(o2 y hy).1) (by omega) rfl]
    by_cases h3:mtE fs a.loose none x.Methods=0
    ·simp only[h3,bne_self_eq_false,Bool.false_eq_true,ne_eq,not_true_eq_false,if_false]
     exact M128_L1_eq F a fs hf k l (n+1) x.Name (some x.Name) (fun y hy=>hx y (List.mem_cons_of_mem _ hy)) (by omega) ⟨by omega,rfl⟩
    ·rw[if_pos h3,if_pos h3,if_pos h3]
  ·rw[if_pos (by simpa using h),if_pos h,if_pos h]
theorem M23_eq(F:Nat)(l:List Tx)(x:Tx):M23 F l x=some (l.contains x):=by
 unfold M23 M86
 rw[q3e]
 have:=idxL (g:=M86_L1 F x (some (-1))) (fun y:Tx=>x==y) (fun _=>rfl) (fun y l n=>by rw[M86_L1]) l 0
 rw[show((0:Nat):Int)=0 from rfl] at this
 rw[this]
 have e:(l.any fun y=>x==y)=l.contains x:=by rw[List.contains_eq_any_beq]
 rw[e]
 cases l.contains x
 ·rfl
 ·simp
theorem M174_eq(F:Nat)(a:q4c)(fs:Tx->Bool)(is:Tx->Option (List Tx))(hf:∀x,(q8b a.funcs x).getD false=fs x)(hi:∀x,(q8b a.ifaces x).map (·.Methods)=is x)(c:q8c)(hc:c.Feature.length<=maxLen):M174 F a c=some (clE fs is a.loose c):=by
 unfold M174 clE
 rw[q3e,M79_eq F _ hc,<-hi,hf]
 simp only[Option.bind_some,M23_eq]
 have tail:(if (!(c.Feature==([]:Tx)))=true then if (!nm c.Feature)=true then some (8:Int) else some 0 else some 0)=some (if c.Feature≠[]/\nm c.Feature=false then 8 else 0):=by
  by_cases h1:c.Feature=[]<;>cases h2:nm c.Feature<;>simp[h1]
 rw[tail]
 by_cases k1:c.Kind=1
 ·rw[if_pos (by simp[k1]),if_pos k1]
  by_cases k3:c.Method=[]<;>cases a.loose<;>cases fs c.Target<;>simp[k3]
 ·rw[if_neg (by simpa using k1),if_neg k1]
  by_cases k2:c.Kind=2
  ·rw[if_pos (by simp[k2]),if_pos k2]
   cases hm:q8b a.ifaces c.Target with
   |none=>cases a.loose<;>simp
   |some x=>
    cases a.loose
    ·cases hcc:x.Methods.contains c.Method<;>simp[hcc]<;>simp_all
    ·simp
  ·rw[if_neg (by simpa using k2),if_neg k2]
theorem M129_L2_eq(F:Nat)(a:q4c)(fs:Tx->Bool)(is:Tx->Option (List Tx))(hf:∀x,(q8b a.funcs x).getD false=fs x)(hi:∀x,(q8b a.ifaces x).map (·.Methods)=is x)(k:Option Int):∀(l:List q8c),(∀c,c∈l->c.Feature.length<=maxLen)->z7e F a k l=if csE fs is a.loose l≠0 then some (csE fs is a.loose l) else k
 |[],_=>by simp[z7e,csE]
 |c::l,h=>by
  rw[z7e,M174_eq F a fs is hf hi c (h c (by simp)),Option.bind_some,csE,M129_L2_eq F a fs is hf hi k l (fun c hc=>h c (List.mem_cons_of_mem _ hc))]
  by_cases h1:clE fs is a.loose c=0
  ·simp only[h1,bne_self_eq_false,Bool.false_eq_true,ne_eq,not_true_eq_false,if_false]
  ·rw[if_pos (by simpa using h1),if_pos h1,if_pos h1]
theorem q5v{α:Type}{a l:List α}{x:α}{n:Nat}(h:a.drop n=x::l):∃hn:n<a.length,a[n]=x/\a.drop (n+1)=l:=by
 have hn:n<a.length:=by
  rcases Nat.lt_or_ge n a.length with h2|h2
  ·exact h2
  ·rw[List.drop_eq_nil_of_le h2] at h;simp at h
 rw[List.drop_eq_getElem_cons hn] at h
 simp only[List.cons.injEq] at h
 exact⟨hn,h.1,h.2⟩
theorem prev_idx{α:Type}{a:List α}{n:Nat}(hn:n<a.length)(h0:n≠0)(hb:a.length<=maxLen):∃h:n - 1<a.length,idx a (w64 ((n:Int) - 1))=some a[n - 1]:=by
 have hb':a.length<=9223372036854775807:=hb
 refine⟨by omega,?_⟩
 rw[z6b (by omega) (by omega),show(n:Int) - 1=((n - 1:Nat):Int) by omega]
 exact q1h _
def prv(a:List Tx)(n:Nat):Option Tx:=if n=0 then none else a[n - 1]?
theorem q3z(a:List Tx):prv a 0=none:=rfl
theorem z3m{a:List Tx}{x:Tx}{n:Nat}(hn:n<a.length)(hx:a[n]=x):prv a (n+1)=some x:=by
 unfold prv
 rw[if_neg (by omega),Nat.add_sub_cancel,List.getElem?_eq_getElem hn,hx]
theorem prv_some{a:List Tx}{n:Nat}(hn:n<a.length)(h0:n≠0):∃h:n - 1<a.length,prv a n=some a[n - 1]:=by
 refine⟨by omega,?_⟩
 unfold prv
 rw[if_neg h0,List.getElem?_eq_getElem (by omega)]
theorem M130_L1_eq(F:Nat)(a:q4c)(a2:List Tx)(a3:SetM)(ha:a2.length<=maxLen)(k:Option Int):∀(l:List Tx) (n:Nat),a2.drop n=l->z6e F a a2 a3 k l n=if lsE (has a3) a.loose (prv a2 n) l≠0 then some (lsE (has a3) a.loose (prv a2 n) l) else k
 |[],n,_=>by simp[z6e,lsE]
 |x::l,n,hd=>by
  obtain⟨hn,hx,hl⟩:=q5v hd
  have ih:=M130_L1_eq F a a2 a3 ha k l (n+1) hl
  rw[z3m hn hx,show((n+1:Nat):Int)=(n:Int)+1 from rfl] at ih
  rw[z6e]
  simp only[q3e]
  rw[ih,lsE]
  have e:(q8b a3 x).getD false=has a3 x:=rfl
  rw[e]
  by_cases h0:n=0
  ·subst h0
   rw[q3z]
   cases a.loose<;>cases has a3 x<;>simp
  ·obtain⟨_,e1⟩:=prev_idx hn h0 ha
   obtain⟨_,e2⟩:=prv_some hn h0
   rw[if_t (show(n:Int)>0 by omega),e1,e2]
   simp only[Option.bind_some,Option.elim_some]
   have e3:(Op.bytesLess x a2[n - 1]||x==a2[n - 1])=le x a2[n - 1]:=rfl
   rw[e3]
   cases a.loose<;>cases has a3 x<;>by_cases hc:le x a2[n - 1]=true<;>simp[hc]
theorem M130_eq(F:Nat)(a:q4c)(a2:List Tx)(a3:SetM)(ha:a2.length<=maxLen):M130 F a a2 a3=some (lsE (has a3) a.loose none a2):=by
 unfold M130
 rw[q3e]
 have:=M130_L1_eq F a a2 a3 ha (some 0) a2 0 rfl
 rw[show((0:Nat):Int)=0 from rfl,q3z] at this
 rw[this]
 split
 ·rfl
 ·rename_i h;simp only[ne_eq,Decidable.not_not] at h;rw[h]
theorem M129_L1_eq(F:Nat)(a:q4c)(fs ts:Tx->Bool)(is:Tx->Option (List Tx))(hf:∀x,(q8b a.funcs x).getD false=fs x)(hi:∀x,(q8b a.ifaces x).map (·.Methods)=is x)(ht:has a.types=ts)(k:Option Int):
  ∀(l:List q5e) (n:Int) (s:Tx) (p:Option Tx),(∀x,x∈l->okTFunc x)->0<=n->pz n p s->z8e F a k l n s=if fnE fs ts is a.loose p l≠0 then some (fnE fs ts is a.loose p l) else k
 |[],n,s,p,_,_,_=>by simp[z8e,fnE]
 |x::l,n,s,p,hx,hn,hp=>by
  obtain⟨o1,o2,⟨o3,_⟩,⟨_,o4⟩,_⟩:=hx x (by simp)
  rw[z8e]
  simp only[q3e]
  rw[M173_eq F x.Name s _ o1,Option.bind_some,nmd_pz hp,fnE]
  by_cases h:nme x.Name p=0
  ·simp only[h,bne_self_eq_false,Bool.false_eq_true,ne_eq,not_true_eq_false,if_false]
   rw[M79_eq F _ o2,Option.bind_some]
   by_cases h1:nm x.Component=false
   ·rw[if_pos (by simp[h1]),if_pos h1];simp
   ·rw[if_neg (by simpa using h1),if_neg h1]
    by_cases h2:200<x.Calls.length
    ·rw[if_t (by omega),if_pos h2];simp
    ·rw[if_f (by omega),if_neg h2,M129_L2_eq F a fs is hf hi _ _ (fun c hc=>(o3 c hc).2.2.2.1)]
     by_cases h3:csE fs is a.loose x.Calls=0
     ·simp only[h3,bne_self_eq_false,Bool.false_eq_true,ne_eq,not_true_eq_false,if_false]
      rw[M130_eq F a _ _ o4,Option.bind_some,ht]
      by_cases h4:lsE ts a.loose none x.Makes=0
      ·simp only[h4,bne_self_eq_false,Bool.false_eq_true,ne_eq,not_true_eq_false,if_false]
       exact M129_L1_eq F a fs ts is hf hi ht k l (n+1) x.Name (some x.Name) (fun y hy=>hx y (List.mem_cons_of_mem _ hy)) (by omega) ⟨by omega,rfl⟩
      ·rw[if_pos (by simpa using h4),if_pos h4,if_pos h4]
     ·rw[if_pos h3,if_pos h3,if_pos h3]
  ·rw[if_pos (by simpa using h),if_pos h,if_pos h]
theorem orz{n:Int}:(if n≠0 then some n else some 0)=some n:=by split<;>simp_all
theorem M60_eq(F:Nat)(g:q3c)(lo:Bool)(h:q2o g):M60 F (kOf g lo) g=some (chk lo g):=by
 obtain⟨⟨o1,_⟩,⟨o2,_⟩,⟨o3,_⟩,⟨_,o4⟩,_⟩:=h
 have hf:∀x,(q8b (kOf g lo).funcs x).getD false=q8s g x:=fun x=>z8j x _
 have ht:has (kOf g lo).types=tsOf g:=funext fun x=>z8j x _
 have hi:∀x,(q8b (kOf g lo).ifaces x).map (·.Methods)=isOf g x:=fun x=>rfl
 have hf':has (kOf g lo).funcs=q8s g:=funext fun x=>z8j x _
 unfold M60 chk M127 M128 M129
 simp only[q3e]
 rw[M127_L1_eq F _ _ 0 [] none o1 (by omega) rfl,M128_L1_eq F _ _ hf _ _ 0 [] none o2 (by omega) rfl,M129_L1_eq F _ _ _ _ hf hi ht _ _ 0 [] none o3 (by omega) rfl,orz,orz,orz,M130_eq F _ _ _ o4,hf',show(kOf g lo).loose=lo from rfl]
 simp only[Option.bind_some]
 by_cases h1:200<g.Ifaces.length
 ·rw[if_t (by omega),if_pos h1]
 rw[if_f (by omega),if_neg h1]
 by_cases h2:500<g.Types.length
 ·rw[if_t (by omega),if_pos h2]
 rw[if_f (by omega),if_neg h2]
 by_cases h3:3000<g.Funcs.length
 ·rw[if_t (by omega),if_pos h3]
 rw[if_f (by omega),if_neg h3]
 refine ite2 ne0 (fun _=>rfl) (fun _=>ite2 ne0 (fun _=>rfl) (fun _=>ite2 ne0 (fun _=>rfl) (fun _=>rfl)))
theorem M17_eq(F:Nat)(g:q3c)(h:q2o g):M17 F g=some (chk false g):=by
 unfold M17
 rw[M59_eq,Option.bind_some,M60_eq F g false h];rfl
theorem mput_mput{α β:Type}[DecidableEq α](k:α)(a b:β):∀m:List (α×β),q7f (q7f m k a) k b=q7f m k b
 |[]=>by simp[q7f]
 |(q,v)::m=>by
  by_cases h:q=k
  ·simp[q7f,h]
  ·simp[q7f,h,mput_mput k a b m]
abbrev MM:=List (Tx×SetM)
theorem M72_L2_eq(F:Nat)(x:q4e)(k:MM->Option q0d)(m:MM):∀(l:List Tx) (a:SetM),M72_L2 F x k l (q7f m x.Name a)=k (q7f m x.Name (sset a l))
 |[],a=>rfl
 |y::l,a=>by
  rw[M72_L2,q9i,if_pos rfl]
  simp only[Option.isSome_some,if_true,Option.getD_some]
  rw[mput_mput,M72_L2_eq F x k m l];rfl
def rfm(m:MM):List q4e->MM
 |[]=>m
 |x::l=>rfm (q7f m x.Name (sset [] x.Methods)) l
theorem M72_L1_eq(F:Nat)(k:MM->Option q0d):∀(l:List q4e) (m:MM),M72_L1 F k l m=k (rfm m l)
 |[],m=>rfl
 |x::l,m=>by
  rw[M72_L1]
  simp only[q3e]
  rw[M72_L2_eq,M72_L1_eq F k l];rfl
theorem M72_L3_eq{F:Nat}(k:SetM->Option q0d):∀(l:List q0i) (m:SetM),M72_L3 F k l m=k (sset m (l.map (·.Name)))
 |[],m=>rfl
 |x::l,m=>by rw[M72_L3,M72_L3_eq k l];rfl
theorem M72_L4_eq{F:Nat}(k:SetM->Option q0d):∀(l:List q5e) (m:SetM),M72_L4 F k l m=k (sset m (l.map (·.Name)))
 |[],m=>rfl
 |x::l,m=>by rw[M72_L4,M72_L4_eq k l];rfl
def nOf(g:q3c):q0d:=q0d.mk (rfm [] g.Ifaces) (sset [] (g.Types.map (·.Name))) (sset [] (g.Funcs.map (·.Name)))
theorem M72_eq(F:Nat)(g:q3c):M72 F g=some (nOf g):=by
 unfold M72
 simp only[q3e,M72_L1_eq,M72_L3_eq,M72_L4_eq]
 rfl
theorem rfm_get(t:Tx):∀(l:List q4e) (m:MM) (m':List (Tx×q4e)),q8b m t=(q8b m' t).map (fun x=>sset [] x.Methods)->q8b (rfm m l) t=(q8b (ifm m' l) t).map (fun x=>sset [] x.Methods)
 |[],m,m',h=>h
 |x::l,m,m',h=>by
  rw[rfm,ifm]
  refine rfm_get t l _ _ ?_
  rw[q9i,q9i]
  split
  ·rfl
  ·exact h
theorem rises_eq(F:Nat){a:List Tx}{n:Nat}{x:Tx}(hn:n<a.length)(hx:a[n]=x)(ha:a.length<=maxLen):M139 F a n=some (if ((prv a n).elim false fun b=>le x b)=true then 10 else 0):=by
 unfold M139
 by_cases h0:n=0
 ·subst h0
  rw[if_f (by omega),q3z];rfl
 ·obtain⟨_,e1⟩:=prev_idx hn h0 ha
  obtain⟨_,e2⟩:=prv_some hn h0
  rw[if_t (by omega),q1h hn,Option.bind_some,e1,Option.bind_some,e2,hx]
  simp only[Option.elim_some]
  have e3:(Op.bytesLess x a[n - 1]||x==a[n - 1])=le x a[n - 1]:=rfl
  rw[e3]
  by_cases hc:le x a[n - 1]=true<;>simp[hc]
theorem nme_prv{x:Tx}{p:Option Tx}:(if nm x=false then (8:Int) else if (p.elim false fun b=>le x b)=true then 10 else 0)=nme x p:=by
 unfold nme
 cases nm x<;>cases p<;>rfl
theorem M136_L2_eq(F:Nat)(x:q4e)(ha:x.Methods.length<=maxLen)(hm:∀s,s∈x.Methods->s.length<=maxLen)(k:Option Int):∀(l:List Tx) (n:Nat),x.Methods.drop n=l->z5e F x k l n=if q1t (prv x.Methods n) l≠0 then some (q1t (prv x.Methods n) l) else k
 |[],n,_=>by simp[z5e,q1t]
 |s::l,n,hd=>by
  obtain⟨hn,hx,hl⟩:=q5v hd
  have hs:s∈x.Methods:=by rw[<-hx];exact List.getElem_mem _
  have ih:=M136_L2_eq F x ha hm k l (n+1) hl
  rw[z3m hn hx,show((n+1:Nat):Int)=(n:Int)+1 from rfl] at ih
  rw[z5e,M82_eq F s (hm s hs),Option.bind_some,rises_eq F hn hx ha,Option.bind_some,ih,q1t,<-nme_prv]
  cases nm s<;>by_cases hc:((prv x.Methods n).elim false fun b=>le s b)=true<;>simp[hc]
def bz(s:Tx)(p:Option Tx):Prop:=match p with|none=>s=[]|some b=>s=b
theorem nme_bz{x s:Tx}{p:Option Tx}(h:bz s p):(if nm x=false then (8:Int) else if le x s=true then 10 else 0)=nme x p:=by
 unfold nme
 cases p with
 |none=>
  have h:s=[]:=h
  subst h
  cases hn:nm x
  ·rfl
  ·rw[le_nil hn];rfl
 |some b=>
  have h:s=b:=h
  subst h
  cases nm x<;>rfl
theorem M136_L1_eq(F:Nat)(k:Option Int):∀(l:List q4e) (s:Tx) (p:Option Tx),(∀x,x∈l->z6m x)->bz s p->z7a F k l s=if ifE p l≠0 then some (ifE p l) else k
 |[],s,p,_,_=>by simp[z7a,ifE]
 |x::l,s,p,hx,hp=>by
  obtain⟨o1,⟨o2,o3⟩,_⟩:=hx x (by simp)
  have ih:=M136_L1_eq F k l x.Name (some x.Name) (fun y hy=>hx y (List.mem_cons_of_mem _ hy)) rfl
  have e:=M136_L2_eq F x o3 o2 (z7a F k l x.Name) x.Methods 0 rfl
  rw[show((0:Nat):Int)=0 from rfl,q3z] at e
  rw[z7a]
  simp only[q3e]
  rw[M82_eq F x.Name o1,Option.bind_some,ifE,e,ih,<-nme_bz hp]
  have e3:(Op.bytesLess x.Name s||x.Name==s)=le x.Name s:=rfl
  rw[e3]
  cases nm x.Name
  ·simp
  ·by_cases hc:le x.Name s=true
   ·simp[hc]
   ·by_cases h1:x.Methods=[]
    ·simp[hc,h1]
    ·by_cases h2:200<x.Methods.length
     ·rw[if_neg (by simp),if_neg hc,if_neg (by simpa using h1),if_t (by omega)];simp[hc,h1,h2]
     ·rw[if_neg (by simp),if_neg hc,if_neg (by simpa using h1),if_f (by omega)];simp[hc,h1,h2]
      by_cases h3:q1t none x.Methods=0<;>simp[h3]
theorem M137_L2_eq(F:Nat)(a:q6b)(fs:Tx->Bool)(hf:∀x,(q8b a.n.funcs x).getD false=fs x)(k:Option Int):∀(l:List q6j) (s:Tx) (p:Option Tx),(∀x,x∈l->x.Name.length<=maxLen)->bz s p->z3e F a k l s=if mtE fs a.loose p l≠0 then some (mtE fs a.loose p l) else k
 |[],s,p,_,_=>by simp[z3e,mtE]
 |x::l,s,p,hx,hp=>by
  have ih:=M137_L2_eq F a fs hf k l x.Name (some x.Name) (fun y hy=>hx y (List.mem_cons_of_mem _ hy)) rfl
  rw[z3e]
  simp only[q3e]
  rw[M82_eq F x.Name (hx x (by simp)),Option.bind_some,mtE,ih,hf,<-nme_bz hp]
  have e3:(Op.bytesLess x.Name s||x.Name==s)=le x.Name s:=rfl
  rw[e3]
  cases nm x.Name
  ·simp
  ·by_cases hc:le x.Name s=true
   ·simp[hc]
   ·cases a.loose<;>cases fs x.Func<;>simp[hc]
theorem M137_L1_eq(F:Nat)(a:q6b)(fs:Tx->Bool)(hf:∀x,(q8b a.n.funcs x).getD false=fs x)(k:Option Int):∀(l:List q0i) (s:Tx) (p:Option Tx),(∀x,x∈l->okTType x)->bz s p->z4e F a k l s=if tyE fs a.loose p l≠0 then some (tyE fs a.loose p l) else k
 |[],s,p,_,_=>by simp[z4e,tyE]
 |x::l,s,p,hx,hp=>by
  obtain⟨o1,⟨o2,o3⟩,_⟩:=hx x (by simp)
  have ih:=M137_L1_eq F a fs hf k l x.Name (some x.Name) (fun y hy=>hx y (List.mem_cons_of_mem _ hy)) rfl
  rw[z4e]
  simp only[q3e]
  rw[M82_eq F x.Name o1,Option.bind_some,tyE,M137_L2_eq F a fs hf _ _ [] none (fun y hy=>(o2 y hy).1) rfl,ih,<-nme_bz hp]
  have e3:(Op.bytesLess x.Name s||x.Name==s)=le x.Name s:=rfl
  rw[e3]
  cases nm x.Name
  ·simp
  ·by_cases hc:le x.Name s=true
   ·simp[hc]
   ·by_cases h2:200<x.Methods.length
    ·rw[if_neg (by simp),if_neg hc,if_t (by omega)];simp[hc,h2]
    ·rw[if_neg (by simp),if_neg hc,if_f (by omega)];simp[hc,h2]
     by_cases h3:mtE fs a.loose none x.Methods=0<;>simp[h3]
theorem M187_eq(F:Nat)(a:q6b)(fs:Tx->Bool)(is:Tx->Option (List Tx))(hf:∀x,(q8b a.n.funcs x).getD false=fs x)(hi:∀x,q8b a.n.ifaces x=(is x).map (sset []))(c:q8c)(hc:c.Feature.length<=maxLen):M187 F a c=some (clE fs is a.loose c):=by
 unfold M187 clE
 rw[q3e,M82_eq F _ hc,hi,hf]
 simp only[Option.bind_some]
 have tail:(if (!(c.Feature==([]:Tx)))=true then if (!nm c.Feature)=true then some (8:Int) else some 0 else some 0)=some (if c.Feature≠[]/\nm c.Feature=false then 8 else 0):=by
  by_cases h1:c.Feature=[]<;>cases h2:nm c.Feature<;>simp[h1]
 rw[tail]
 by_cases k1:c.Kind=1
 ·rw[if_pos (by simp[k1]),if_pos k1]
  by_cases k3:c.Method=[]<;>cases a.loose<;>cases fs c.Target<;>simp[k3]
 ·rw[if_neg (by simpa using k1),if_neg k1]
  by_cases k2:c.Kind=2
  ·rw[if_pos (by simp[k2]),if_pos k2]
   cases hm:is c.Target with
   |none=>cases a.loose<;>simp
   |some l=>
    have e:(q8b (sset [] l) c.Method).getD false=l.contains c.Method:=z8j _ _
    simp only[Option.map_some,Option.isSome_some,if_true,Option.getD_some,e,Option.elim_some]
    cases a.loose<;>by_cases hcc:l.contains c.Method=true<;>simp only[hcc]<;>simp
  ·rw[if_neg (by simpa using k2),if_neg k2]
theorem M138_L2_eq(F:Nat)(a:q6b)(fs:Tx->Bool)(is:Tx->Option (List Tx))(hf:∀x,(q8b a.n.funcs x).getD false=fs x)(hi:∀x,q8b a.n.ifaces x=(is x).map (sset []))(k:Option Int):∀(l:List q8c),(∀c,c∈l->c.Feature.length<=maxLen)->z2e F a k l=if csE fs is a.loose l≠0 then some (csE fs is a.loose l) else k
 |[],_=>by simp[z2e,csE]
 |c::l,h=>by
  rw[z2e,M187_eq F a fs is hf hi c (h c (by simp)),Option.bind_some,csE,M138_L2_eq F a fs is hf hi k l (fun c hc=>h c (List.mem_cons_of_mem _ hc))]
  by_cases h1:clE fs is a.loose c=0<;>simp[h1]
theorem M138_L3_eq(F:Nat)(a:q6b)(x:q5e)(ha:x.Makes.length<=maxLen)(k:Option Int):∀(l:List Tx) (n:Nat),x.Makes.drop n=l->z1e F a x k l n=if lsE (has a.n.types) a.loose (prv x.Makes n) l≠0 then some (lsE (has a.n.types) a.loose (prv x.Makes n) l) else k
 |[],n,_=>by simp[z1e,lsE]
 |s::l,n,hd=>by
  obtain⟨hn,hx,hl⟩:=q5v hd
  have ih:=M138_L3_eq F a x ha k l (n+1) hl
  rw[z3m hn hx,show((n+1:Nat):Int)=(n:Int)+1 from rfl] at ih
  rw[z1e]
  simp only[q3e]
  have e:(q8b a.n.types s).getD false=has a.n.types s:=rfl
  rw[rises_eq F hn hx ha,Option.bind_some,ih,lsE,e]
  cases a.loose<;>cases has a.n.types s<;>by_cases hc:((prv x.Makes n).elim false fun b=>le s b)=true<;>simp[hc]
theorem M73_L1_eq(F:Nat)(a:q6b)(ha:a.g.Entries.length<=maxLen)(k:Option Int):∀(l:List Tx) (n:Nat),a.g.Entries.drop n=l->M73_L1 F a k l n=if lsE (has a.n.funcs) a.loose (prv a.g.Entries n) l≠0 then some (lsE (has a.n.funcs) a.loose (prv a.g.Entries n) l) else k
 |[],n,_=>by simp[M73_L1,lsE]
 |s::l,n,hd=>by
  obtain⟨hn,hx,hl⟩:=q5v hd
  have ih:=M73_L1_eq F a ha k l (n+1) hl
  rw[z3m hn hx,show((n+1:Nat):Int)=(n:Int)+1 from rfl] at ih
  rw[M73_L1]
  simp only[q3e]
  have e:(q8b a.n.funcs s).getD false=has a.n.funcs s:=rfl
  rw[rises_eq F hn hx ha,Option.bind_some,ih,lsE,e]
  cases a.loose<;>cases has a.n.funcs s<;>by_cases hc:((prv a.g.Entries n).elim false fun b=>le s b)=true<;>simp[hc]
theorem M138_L1_eq(F:Nat)(a:q6b)(fs ts:Tx->Bool)(is:Tx->Option (List Tx))(hf:∀x,(q8b a.n.funcs x).getD false=fs x)(hi:∀x,q8b a.n.ifaces x=(is x).map (sset []))(ht:has a.n.types=ts)(k:Option Int):
  ∀(l:List q5e) (s:Tx) (p:Option Tx),(∀x,x∈l->okTFunc x)->bz s p->z6a F a k l s=if fnE fs ts is a.loose p l≠0 then some (fnE fs ts is a.loose p l) else k
 |[],s,p,_,_=>by simp[z6a,fnE]
 |x::l,s,p,hx,hp=>by
  obtain⟨o1,o2,⟨o3,_⟩,⟨_,o4⟩,_⟩:=hx x (by simp)
  have ih:=M138_L1_eq F a fs ts is hf hi ht k l x.Name (some x.Name) (fun y hy=>hx y (List.mem_cons_of_mem _ hy)) rfl
  have e:=M138_L3_eq F a x o4 (z6a F a k l x.Name) x.Makes 0 rfl
  rw[show((0:Nat):Int)=0 from rfl,q3z] at e
  rw[z6a]
  simp only[q3e]
  rw[M82_eq F x.Name o1,Option.bind_some,M82_eq F x.Component o2,Option.bind_some,fnE,M138_L2_eq F a fs is hf hi _ _ (fun c hc=>(o3 c hc).2.2.2.1),e,ht,ih,<-nme_bz hp]
  have e3:(Op.bytesLess x.Name s||x.Name==s)=le x.Name s:=rfl
  rw[e3]
  cases nm x.Name
  ·simp
  ·by_cases hc:le x.Name s=true
   ·simp[hc]
   ·cases hcm:nm x.Component
    ·simp[hc,hcm]
    ·by_cases h2:200<x.Calls.length
     ·rw[if_neg (by simp),if_neg hc,if_neg (by simp),if_t (by omega)];simp[hc,h2,hcm]
     ·rw[if_neg (by simp),if_neg hc,if_neg (by simp),if_f (by omega)];simp[hc,h2,hcm]
      by_cases h3:csE fs is a.loose x.Calls=0
      ·by_cases h4:lsE ts a.loose none x.Makes=0<;>simp[h3,h4]
      ·simp[h3]
theorem M73_eq(F:Nat)(g:q3c)(lo:Bool)(h:q2o g):M73 F (q6b.mk g (nOf g) lo)=some (chk lo g):=by
 obtain⟨⟨o1,_⟩,⟨o2,_⟩,⟨o3,_⟩,⟨_,o4⟩,_⟩:=h
 have hf:∀x,(q8b (q6b.mk g (nOf g) lo).n.funcs x).getD false=q8s g x:=fun x=>z8j x _
 have ht:has (q6b.mk g (nOf g) lo).n.types=tsOf g:=funext fun x=>z8j x _
 have hi:∀x,q8b (q6b.mk g (nOf g) lo).n.ifaces x=(isOf g x).map (sset []):=fun x=>by
  show q8b (rfm [] g.Ifaces) x=_
  rw[rfm_get x g.Ifaces [] [] rfl]
  unfold isOf
  rw[Option.map_map];rfl
 have hf':has (nOf g).funcs=q8s g:=funext fun x=>z8j x _
 unfold M73 chk M136 M137 M138
 simp only[q3e]
 have e:=M73_L1_eq F (q6b.mk g (nOf g) lo) o4 (some 0) g.Entries 0 rfl
 rw[show((0:Nat):Int)=0 from rfl,q3z] at e
 rw[M136_L1_eq F _ _ [] none o1 rfl,M137_L1_eq F _ _ hf _ _ [] none o2 rfl,M138_L1_eq F _ _ _ _ hf hi ht _ _ [] none o3 rfl,orz,orz,orz]
 simp only at e
 rw[e,hf',orz]
 simp only[Option.bind_some]
 by_cases h1:200<g.Ifaces.length
 ·rw[if_t (by omega),if_pos h1]
 rw[if_f (by omega),if_neg h1]
 by_cases h2:500<g.Types.length
 ·rw[if_t (by omega),if_pos h2]
 rw[if_f (by omega),if_neg h2]
 by_cases h3:3000<g.Funcs.length
 ·rw[if_t (by omega),if_pos h3]
 rw[if_f (by omega),if_neg h3]
 refine ite2 ne0 (fun _=>rfl) (fun _=>ite2 ne0 (fun _=>rfl) (fun _=>ite2 ne0 (fun _=>rfl) (fun _=>rfl)))
theorem M18_eq(F:Nat)(g:q3c)(h:q2o g):M18 F g=some (chk false g):=by
 unfold M18
 rw[M72_eq,Option.bind_some,M73_eq F g false h];rfl
theorem M143_L1_eq(F:Nat)(k:Option Int):∀(l:List Tx) (n:Int) (s:Tx) (p:Option Tx),(∀x,x∈l->x.length<=maxLen)->0<=n->pz n p s->z0e F k l n s=if q1t p l≠0 then some (q1t p l) else k
 |[],n,s,p,_,_,_=>by simp[z0e,q1t]
 |x::l,n,s,p,hx,hn,hp=>by
  have ih:=M143_L1_eq F k l (n+1) x (some x) (fun y hy=>hx y (List.mem_cons_of_mem _ hy)) (by omega) ⟨by omega,rfl⟩
  rw[z0e,M173_eq F x s _ (hx x (by simp)),Option.bind_some,nmd_pz hp,q1t,ih]
  by_cases h:nme x p=0<;>simp[h]
def feE(l:List Tx):Int:=if 30<l.length then 3 else q1t none l
theorem M143_eq(F:Nat)(l:List Tx)(h:∀x,x∈l->x.length<=maxLen):M143 F l=some (feE l):=by
 unfold M143 feE
 rw[q3e,M143_L1_eq F _ l 0 [] none h (by omega) rfl,orz]
 by_cases h1:30<l.length
 ·rw[if_t (by omega),if_pos h1]
 ·rw[if_f (by omega),if_neg h1]
theorem M81_L1_eq(F:Nat)(a:List Tx)(ha:a.length<=maxLen)(hm:∀s,s∈a->s.length<=maxLen)(k:Option Int):∀(l:List Tx) (n:Nat),a.drop n=l->M81_L1 F a k l n=if q1t (prv a n) l≠0 then some (q1t (prv a n) l) else k
 |[],n,_=>by simp[M81_L1,q1t]
 |s::l,n,hd=>by
  obtain⟨hn,hx,hl⟩:=q5v hd
  have hs:s∈a:=by rw[<-hx];exact List.getElem_mem _
  have ih:=M81_L1_eq F a ha hm k l (n+1) hl
  rw[z3m hn hx,show((n+1:Nat):Int)=(n:Int)+1 from rfl] at ih
  rw[M81_L1,M82_eq F s (hm s hs),Option.bind_some,rises_eq F hn hx ha,Option.bind_some,ih,q1t,<-nme_prv]
  cases nm s<;>by_cases hc:((prv a n).elim false fun b=>le s b)=true<;>simp[hc]
theorem M81_eq(F:Nat)(l:List Tx)(h:∀x,x∈l->x.length<=maxLen)(hl:l.length<=maxLen):M81 F l=some (feE l):=by
 unfold M81 feE
 have e:=M81_L1_eq F l hl h (some 0) l 0 rfl
 rw[show((0:Nat):Int)=0 from rfl,q3z] at e
 rw[q3e,e,orz]
 by_cases h1:30<l.length
 ·rw[if_t (by omega),if_pos h1]
 ·rw[if_f (by omega),if_neg h1]
theorem methE_zero:∀{l:List Tx} {p:Option Tx},q1t p l=0->(∀b,p=some b->∀x,x∈l->Op.bytesLess b x=true)/\l.Pairwise (fun a b=>Op.bytesLess a b=true)/\∀x,x∈l->nm x=true
 |[],p,_=>⟨by simp,List.Pairwise.nil,by simp⟩
 |s::l,p,h=>by
  rw[q1t] at h
  split at h
  ·rename_i hc;exact absurd h hc
  ·rename_i hc
   obtain⟨h1,h2⟩:=z7m (s:=s) (p:=p) (by simpa using hc)
   obtain⟨i1,i2,i3⟩:=methE_zero h
   refine⟨fun b hb x hx=>?_,List.pairwise_cons.2 ⟨i1 s rfl,i2⟩,fun x hx=>?_⟩
   ·rcases List.mem_cons.1 hx with rfl|hx
    ·exact h2 b hb
    ·exact q8m (h2 b hb) (i1 s rfl x hx)
   ·rcases List.mem_cons.1 hx with rfl|hx
    ·exact h1
    ·exact i3 x hx
theorem lsE_zero{there:Tx->Bool}:∀{l:List Tx} {p:Option Tx},lsE there false p l=0->(∀b,p=some b->∀x,x∈l->Op.bytesLess b x=true)/\l.Pairwise (fun a b=>Op.bytesLess a b=true)/\∀x,x∈l->there x=true
 |[],p,_=>⟨by simp,List.Pairwise.nil,by simp⟩
 |s::l,p,h=>by
  rw[lsE] at h
  split at h
  ·simp at h
  ·rename_i h1
   split at h
   ·simp at h
   ·rename_i h2
    obtain⟨i1,i2,i3⟩:=lsE_zero h
    have hb0:∀b,p=some b->Op.bytesLess b s=true:=fun b hb=>by
     subst hb
     simp only[Option.elim_some] at h2
     exact le_iff.1 (by simpa using h2)
    refine⟨fun b hb x hx=>?_,List.pairwise_cons.2 ⟨i1 s rfl,i2⟩,fun x hx=>?_⟩
    ·rcases List.mem_cons.1 hx with rfl|hx
     ·exact hb0 b hb
     ·exact q8m (hb0 b hb) (i1 s rfl x hx)
    ·rcases List.mem_cons.1 hx with rfl|hx
     ·simpa using h1
     ·exact i3 x hx
theorem mtE_zero{fs:Tx->Bool}:∀{l:List q6j} {p:Option Tx},mtE fs false p l=0->(∀b,p=some b->∀x,x∈l->Op.bytesLess b x.Name=true)/\l.Pairwise (fun a b=>Op.bytesLess a.Name b.Name=true)/\∀x,x∈l->nm x.Name=true/\fs x.Func=true
 |[],p,_=>⟨by simp,List.Pairwise.nil,by simp⟩
 |s::l,p,h=>by
  rw[mtE] at h
  split at h
  ·rename_i hc;exact absurd h hc
  ·rename_i hc
   obtain⟨h1,h2⟩:=z7m (s:=s.Name) (p:=p) (by simpa using hc)
   split at h
   ·simp at h
   ·rename_i h3
    obtain⟨i1,i2,i3⟩:=mtE_zero h
    refine⟨fun b hb x hx=>?_,List.pairwise_cons.2 ⟨i1 s.Name rfl,i2⟩,fun x hx=>?_⟩
    ·rcases List.mem_cons.1 hx with rfl|hx
     ·exact h2 b hb
     ·exact q8m (h2 b hb) (i1 s.Name rfl x hx)
    ·rcases List.mem_cons.1 hx with rfl|hx
     ·exact⟨h1,by simpa using h3⟩
     ·exact i3 x hx
structure RightI(x:q4e):Prop where
 nam:nm x.Name=true
 ne:x.Methods≠[]
 len:x.Methods.length<=200
 srt:x.Methods.Pairwise (fun a b=>Op.bytesLess a b=true)
 mn:∀s,s∈x.Methods->nm s=true
theorem ifE_zero:∀{l:List q4e} {p:Option Tx},ifE p l=0->(∀b,p=some b->∀x,x∈l->Op.bytesLess b x.Name=true)/\l.Pairwise (fun a b=>Op.bytesLess a.Name b.Name=true)/\∀x,x∈l->RightI x
 |[],p,_=>⟨by simp,List.Pairwise.nil,by simp⟩
 |s::l,p,h=>by
  rw[ifE] at h
  split at h
  ·rename_i hc;exact absurd h hc
  ·rename_i hc
   obtain⟨h1,h2⟩:=z7m (s:=s.Name) (p:=p) (by simpa using hc)
   split at h
   ·simp at h
   ·rename_i h3
    split at h
    ·simp at h
    ·rename_i h4
     split at h
     ·rename_i h5;exact absurd h h5
     ·rename_i h5
      obtain⟨_,m2,m3⟩:=methE_zero (show q1t none s.Methods=0 by simpa using h5)
      obtain⟨i1,i2,i3⟩:=ifE_zero h
      refine⟨fun b hb x hx=>?_,List.pairwise_cons.2 ⟨i1 s.Name rfl,i2⟩,fun x hx=>?_⟩
      ·rcases List.mem_cons.1 hx with rfl|hx
       ·exact h2 b hb
       ·exact q8m (h2 b hb) (i1 s.Name rfl x hx)
      ·rcases List.mem_cons.1 hx with rfl|hx
       ·exact⟨h1,h3,by omega,m2,m3⟩
       ·exact i3 x hx
structure RightT(fs:Tx->Bool)(x:q0i):Prop where
 nam:nm x.Name=true
 len:x.Methods.length<=200
 srt:x.Methods.Pairwise (fun a b=>Op.bytesLess a.Name b.Name=true)
 mn:∀s,s∈x.Methods->nm s.Name=true/\fs s.Func=true
theorem tyE_zero{fs:Tx->Bool}:∀{l:List q0i} {p:Option Tx},tyE fs false p l=0->(∀b,p=some b->∀x,x∈l->Op.bytesLess b x.Name=true)/\l.Pairwise (fun a b=>Op.bytesLess a.Name b.Name=true)/\∀x,x∈l->RightT fs x
 |[],p,_=>⟨by simp,List.Pairwise.nil,by simp⟩
 |s::l,p,h=>by
  rw[tyE] at h
  split at h
  ·rename_i hc;exact absurd h hc
  ·rename_i hc
   obtain⟨h1,h2⟩:=z7m (s:=s.Name) (p:=p) (by simpa using hc)
   split at h
   ·simp at h
   ·rename_i h4
    split at h
    ·rename_i h5;exact absurd h h5
    ·rename_i h5
     obtain⟨_,m2,m3⟩:=mtE_zero (show mtE fs false none s.Methods=0 by simpa using h5)
     obtain⟨i1,i2,i3⟩:=tyE_zero h
     refine⟨fun b hb x hx=>?_,List.pairwise_cons.2 ⟨i1 s.Name rfl,i2⟩,fun x hx=>?_⟩
     ·rcases List.mem_cons.1 hx with rfl|hx
      ·exact h2 b hb
      ·exact q8m (h2 b hb) (i1 s.Name rfl x hx)
     ·rcases List.mem_cons.1 hx with rfl|hx
      ·exact⟨h1,by omega,m2,m3⟩
      ·exact i3 x hx
structure RightC(fs:Tx->Bool)(is:Tx->Option (List Tx))(c:q8c):Prop where
 feat:c.Feature=[]\/nm c.Feature=true
 kind:(c.Kind=1/\fs c.Target=true/\c.Method=[])\/(c.Kind=2/\∃l,is c.Target=some l/\c.Method∈l)
theorem clE_zero{fs:Tx->Bool}{is:Tx->Option (List Tx)}{c:q8c}(h:clE fs is false c=0):RightC fs is c:=by
 unfold clE at h
 have tail:(if c.Feature≠[]/\nm c.Feature=false then (8:Int) else 0)=0->c.Feature=[]\/nm c.Feature=true:=by
  intro h
  split at h
  ·simp at h
  ·rename_i hc
   by_cases h1:c.Feature=[]
   ·exact .inl h1
   ·refine .inr ?_
    cases h2:nm c.Feature
    ·exact absurd ⟨h1,h2⟩ hc
    ·rfl
 split at h
 ·rename_i k1
  split at h
  ·simp at h
  ·rename_i h1
   split at h
   ·simp at h
   ·rename_i h2
    exact⟨tail h,.inl ⟨k1,by simpa using h1,by simpa using h2⟩⟩
 ·split at h
  ·rename_i k1 k2
   split at h
   ·simp at h
   ·rename_i h1
    refine⟨tail h,.inr ⟨k2,?_⟩⟩
    cases hi:is c.Target with
    |none=>rw[hi] at h1;simp at h1
    |some l=>rw[hi] at h1;exact⟨l,rfl,by simpa using h1⟩
  ·simp at h
theorem csE_zero{fs:Tx->Bool}{is:Tx->Option (List Tx)}:∀{l:List q8c},csE fs is false l=0->∀c,c∈l->RightC fs is c
 |[],_,c,hc=>by simp at hc
 |x::l,h,c,hc=>by
  rw[csE] at h
  split at h
  ·rename_i h1;exact absurd h h1
  ·rename_i h1
   rcases List.mem_cons.1 hc with rfl|hc
   ·exact clE_zero (by simpa using h1)
   ·exact csE_zero h c hc
structure RightF(fs ts:Tx->Bool)(is:Tx->Option (List Tx))(x:q5e):Prop where
 nam:nm x.Name=true
 comp:nm x.Component=true
 len:x.Calls.length<=200
 calls:∀c,c∈x.Calls->RightC fs is c
 msrt:x.Makes.Pairwise (fun a b=>Op.bytesLess a b=true)
 makes:∀t,t∈x.Makes->ts t=true
theorem fnE_zero{fs ts:Tx->Bool}{is:Tx->Option (List Tx)}:∀{l:List q5e} {p:Option Tx},fnE fs ts is false p l=0->(∀b,p=some b->∀x,x∈l->Op.bytesLess b x.Name=true)/\l.Pairwise (fun a b=>Op.bytesLess a.Name b.Name=true)/\∀x,x∈l->RightF fs ts is x
 |[],p,_=>⟨by simp,List.Pairwise.nil,by simp⟩
 |s::l,p,h=>by
  rw[fnE] at h
  split at h
  ·rename_i hc;exact absurd h hc
  ·rename_i hc
   obtain⟨h1,h2⟩:=z7m (s:=s.Name) (p:=p) (by simpa using hc)
   split at h
   ·simp at h
   ·rename_i h3
    split at h
    ·simp at h
    ·rename_i h4
     split at h
     ·rename_i h5;exact absurd h h5
     ·rename_i h5
      split at h
      ·rename_i h6;exact absurd h h6
      ·rename_i h6
       obtain⟨_,m2,m3⟩:=lsE_zero (show lsE ts false none s.Makes=0 by simpa using h6)
       obtain⟨i1,i2,i3⟩:=fnE_zero h
       refine⟨fun b hb x hx=>?_,List.pairwise_cons.2 ⟨i1 s.Name rfl,i2⟩,fun x hx=>?_⟩
       ·rcases List.mem_cons.1 hx with rfl|hx
        ·exact h2 b hb
        ·exact q8m (h2 b hb) (i1 s.Name rfl x hx)
       ·rcases List.mem_cons.1 hx with rfl|hx
        ·exact⟨h1,by simpa using h3,by omega,csE_zero (by simpa using h5),m2,m3⟩
        ·exact i3 x hx
structure q5g(g:q3c):Prop where
 il:g.Ifaces.length<=200
 tl:g.Types.length<=500
 fl:g.Funcs.length<=3000
 isrt:g.Ifaces.Pairwise (fun a b=>Op.bytesLess a.Name b.Name=true)
 tsrt:g.Types.Pairwise (fun a b=>Op.bytesLess a.Name b.Name=true)
 fsrt:g.Funcs.Pairwise (fun a b=>Op.bytesLess a.Name b.Name=true)
 i:∀x,x∈g.Ifaces->RightI x
 t:∀x,x∈g.Types->RightT (q8s g) x
 f:∀x,x∈g.Funcs->RightF (q8s g) (tsOf g) (isOf g) x
 esrt:g.Entries.Pairwise (fun a b=>Op.bytesLess a b=true)
 e:∀s,s∈g.Entries->q8s g s=true
theorem right_of{g:q3c}(h:chk false g=0):q5g g:=by
 unfold chk at h
 split at h
 ·simp at h
 split at h
 ·simp at h
 split at h
 ·simp at h
 rename_i h1 h2 h3
 split at h
 ·rename_i h4;exact absurd h h4
 split at h
 ·rename_i h5;exact absurd h h5
 split at h
 ·rename_i h6;exact absurd h h6
 rename_i h4 h5 h6
 obtain⟨_,a2,a3⟩:=ifE_zero (show ifE none g.Ifaces=0 by simpa using h4)
 obtain⟨_,b2,b3⟩:=tyE_zero (show tyE (q8s g) false none g.Types=0 by simpa using h5)
 obtain⟨_,c2,c3⟩:=fnE_zero (show fnE (q8s g) (tsOf g) (isOf g) false none g.Funcs=0 by simpa using h6)
 obtain⟨_,d2,d3⟩:=lsE_zero h
 exact⟨by omega,by omega,by omega,a2,b2,c2,a3,b3,c3,d2,d3⟩
theorem M100_eq(F:Nat)(a b:Tx):M100 F a b=some (if Op.bytesLess a b=true then -1 else if a=b then 0 else 1):=by
 unfold M100 M158
 simp only[beq_self_eq_true,Bool.not_true,Option.bind_some,Bool.false_eq_true,if_false]
 by_cases h:Op.bytesLess a b=true
 ·simp[h]
 ·by_cases h2:a=b
  ·subst h2;simp[q9n]
  ·simp[h,h2]
def mlt(x:Tx)(m:q6j):Bool:=Op.bytesLess m.Name x
theorem bs_loop(F:Nat)(a:List q6j)(x:Tx)(k:Int->Option (Int×Bool))(hlen:a.length<=100000)(hs:a.Pairwise (fun p q=>Op.bytesLess p.Name q.Name=true)):
  ∀(n i j:Nat),i<=j->j<=a.length->j - i<n->(∀q (h:q<a.length),q<i->mlt x a[q]=true)->(∀q (h:q<a.length),j<=q->mlt x a[q]=false)->
  ∃p:Nat,p<=a.length/\q4x F a x k n i j=k p/\(∀q (h:q<a.length),q<p->mlt x a[q]=true)/\∀q (h:q<a.length),p<=q->mlt x a[q]=false
 |0,i,j,_,_,h,_,_=>by omega
 |n+1,i,j,hij,hj,hn,h1,h2=>by
  rw[q4x]
  by_cases hc:i<j
  ·have hm:(i+j) / 2<a.length:=by omega
   rw[if_t (by omega),mid_nat (by omega),q1h hm,Option.bind_some]
   unfold M208
   rw[M100_eq,Option.bind_some,Option.bind_some]
   simp only[q3e]
   by_cases hl:Op.bytesLess (a[(i+j) / 2]).Name x=true
   ·rw[if_pos hl,if_t (by omega),show w64 ((((i+j) / 2:Nat):Int)+1)=(((i+j) / 2+1:Nat):Int) by rw[z6b (by omega) (by omega)];rfl]
    refine bs_loop F a x k hlen hs n ((i+j) / 2+1) j (by omega) hj (by omega) (fun q h hq=>?_) h2
    rcases Nat.lt_or_ge q ((i+j) / 2) with hq2|hq2
    ·have:=List.pairwise_iff_getElem.1 hs q ((i+j) / 2) h hm hq2
     exact q8m this hl
    ·have:q=(i+j) / 2:=by omega
     subst this;exact hl
   ·rw[if_neg hl]
    have e:(if decide ((if a[(i+j) / 2].Name=x then (0:Int) else 1)<0)=true then q4x F a x k n (w64 ((((i+j) / 2:Nat):Int)+1)) j else q4x F a x k n i (((i+j) / 2:Nat):Int))=q4x F a x k n i (((i+j) / 2:Nat):Int):=by
     have hh:¬((if a[(i+j) / 2].Name=x then (0:Int) else 1)<0):=by split<;>omega
     rw[if_f hh]
    rw[e]
    refine bs_loop F a x k hlen hs n i ((i+j) / 2) (by omega) (by omega) (by omega) h1 (fun q h hq=>?_)
    have hl:Op.bytesLess (a[(i+j) / 2]).Name x=false:=by simpa using hl
    rcases Nat.lt_or_ge ((i+j) / 2) q with hq2|hq2
    ·have:=List.pairwise_iff_getElem.1 hs ((i+j) / 2) q hm h hq2
     unfold mlt
     cases hh:Op.bytesLess (a[q]).Name x
     ·rfl
     ·rw[q8m this hh] at hl;simp at hl
    ·have:q=(i+j) / 2:=by omega
     subst this;exact hl
  ·have:i=j:=by omega
   subst this
   rw[if_f (by omega)]
   exact⟨i,hj,rfl,h1,h2⟩
def mOf(t:q0i)(m:Tx):Tx×Bool:=match t.Methods.find? (fun y=>y.Name==m) with|some y=>(y.Func,true)|none=>([],false)
theorem M169_eq(F:Nat)(t:q0i)(x:Tx)(hlen:t.Methods.length<=200)(hs:t.Methods.Pairwise (fun p q=>Op.bytesLess p.Name q.Name=true))(hF:1000<=F):M169 F t x=some (mOf t x):=by
 unfold M169 M207 mOf
 simp only[q3e]
 obtain⟨p,p1,p2,p3,p4⟩:=bs_loop F t.Methods x (fun n4=>if decide (n4<((t.Methods.length:Nat):Int))=true then (idx t.Methods n4).bind fun x19=>(M208 F x19 x).bind fun y21=>some (n4,y21==0) else some (n4,false)) (by omega) hs F 0 t.Methods.length (by omega) (Nat.le_refl _) (by omega) (fun q h hq=>by omega) (fun q h hq=>by omega)
 rw[show((0:Nat):Int)=0 from rfl] at p2
 rw[p2]
 by_cases hp:p<t.Methods.length
 ·rw[if_t (by omega),q1h hp,Option.bind_some]
  unfold M208
  rw[M100_eq,Option.bind_some,Option.bind_some,Option.bind_some]
  have hlt:Op.bytesLess (t.Methods[p]).Name x=false:=p4 p hp (Nat.le_refl _)
  have ec:(if Op.bytesLess (t.Methods[p]).Name x=true then (-1:Int) else if (t.Methods[p]).Name=x then 0 else 1)=if (t.Methods[p]).Name=x then 0 else 1:=by rw[if_neg (by simp[hlt])]
  rw[ec]
  by_cases he:(t.Methods[p]).Name=x
  ·rw[if_pos he]
   have hf:t.Methods.find? (fun y=>y.Name==x)=some t.Methods[p]:=by
    rw[List.find?_eq_some_iff_getElem]
    refine⟨by simp[he],p,hp,rfl,fun j hj=>?_⟩
    have:=p3 j (by omega) hj
    unfold mlt at this
    simpa using bl_ne this
   rw[hf]
   simp[q1h hp]
  ·rw[if_neg he]
   have hf:t.Methods.find? (fun y=>y.Name==x)=none:=by
    rw[List.find?_eq_none]
    intro y hy
    obtain⟨q,hq,rfl⟩:=List.getElem_of_mem hy
    rcases Nat.lt_trichotomy q p with h|h|h
    ·have:=p3 q hq h
     unfold mlt at this
     simpa using bl_ne this
    ·subst h;simpa using he
    ·have h2:=List.pairwise_iff_getElem.1 hs p q hp hq h
     have h3:Op.bytesLess x (t.Methods[p]).Name=true:=by
      rcases z7i (t.Methods[p]).Name x with g|g|g
      ·rw[g] at hlt;simp at hlt
      ·exact absurd g he
      ·exact g
     have:=bl_ne (q8m h3 h2)
     simpa using fun e=>this e.symm
   rw[hf]
   simp
 ·rw[if_f (by omega)]
  have hf:t.Methods.find? (fun y=>y.Name==x)=none:=by
   rw[List.find?_eq_none]
   intro y hy
   obtain⟨q,hq,rfl⟩:=List.getElem_of_mem hy
   have:=p3 q hq (by omega)
   unfold mlt at this
   simpa using bl_ne this
  rw[hf]
  simp
def fitB(t:q0i)(x:q4e):Bool:=x.Methods.all fun m=>(mOf t m).2
theorem M117_eq(F:Nat)(t:q0i)(x:q4e)(hlen:t.Methods.length<=200)(hs:t.Methods.Pairwise (fun p q=>Op.bytesLess p.Name q.Name=true))(hF:1000<=F):M117 F t x=some (fitB t x):=by
 unfold M117 fitB
 rw[q3e]
 generalize x.Methods=l
 induction l with
 |nil=>rfl
 |cons m l ih=>
  rw[M117_L1,M169_eq F t m hlen hs hF,Option.bind_some,ih,List.all_cons]
  cases (mOf t m).2<;>simp
abbrev NumM:=List (Tx×Int)
def nums(m:NumM):Int->List Tx->NumM
 |_,[]=>m
 |n,x::l=>nums (q7f m x n) (n+1) l
theorem nums_other(x:Tx):∀(l:List Tx) (m:NumM) (n:Int),x ∉ l->q8b (nums m n l) x=q8b m x
 |[],m,n,_=>rfl
 |y::l,m,n,h=>by
  rw[nums,nums_other x l _ _ (fun hh=>h (List.mem_cons_of_mem _ hh)),q9i,if_neg (fun e=>h (by rw[e];simp))]
theorem q4z:∀(l:List Tx) (m:NumM) (n:Int) (i:Nat) (h:i<l.length),l.Pairwise (fun a b=>Op.bytesLess a b=true)->q8b (nums m n l) l[i]=some (n+i)
 |[],m,n,i,h,_=>by simp at h
 |x::l,m,n,0,h,hp=>by
  have hp:=List.pairwise_cons.1 hp
  rw[nums,List.getElem_cons_zero,nums_other x l _ _ (fun hh=>bl_ne (hp.1 x hh) rfl),q9i,if_pos rfl];simp
 |x::l,m,n,i+1,h,hp=>by
  have hp:=List.pairwise_cons.1 hp
  rw[nums,List.getElem_cons_succ,q4z l _ (n+1) i (by simpa using h) hp.2]
  congr 1;omega
theorem M41_L1_eq{F:Nat}(k:NumM->Option (Option q8a)):∀(l:List q5e) (n:Int) (m:NumM),M41_L1 F k l n m=k (nums m n (l.map (·.Name)))
 |[],n,m=>rfl
 |x::l,n,m=>by rw[M41_L1,M41_L1_eq k l];rfl
theorem M41_L2_eq{F:Nat}(k:NumM->Option (Option q8a)):∀(l:List q0i) (n:Int) (m:NumM),M41_L2 F k l n m=k (nums m n (l.map (·.Name)))
 |[],n,m=>rfl
 |x::l,n,m=>by rw[M41_L2,M41_L2_eq k l];rfl
theorem M41_L5_eq{F:Nat}(k:SetM->Option (Option q8a)):∀(l:List Tx) (m:SetM),M41_L5 F k l m=k (sset m l)
 |[],m=>rfl
 |x::l,m=>by rw[M41_L5,M41_L5_eq k l];rfl
abbrev FitM:=List (Tx×List Int)
def q5l(x:q4e):Int->List q0i->List Int
 |_,[]=>[]
 |n,t::l=>if fitB t x=true then n::q5l x (n+1) l else q5l x (n+1) l
theorem fitIdx_len(x:q4e):∀(l:List q0i) (n:Int),(q5l x n l).length<=l.length
 |[],n=>by simp[q5l]
 |t::l,n=>by
  have:=fitIdx_len x l (n+1)
  rw[q5l]
  split<;>simp<;>omega
theorem fitIdx_mem(x:q4e):∀(l:List q0i) (n:Int) (t:Int),t∈q5l x n l<->∃i:Nat,∃h:i<l.length,t=n+i/\fitB l[i] x=true
 |[],n,t=>by simp[q5l]
 |y::l,n,t=>by
  have ih:=fitIdx_mem x l (n+1) t
  rw[q5l]
  constructor
  ·intro h
   have:(t=n/\fitB y x=true)\/t∈q5l x (n+1) l:=by
    split at h
    ·rename_i hf
     rcases List.mem_cons.1 h with rfl|h
     ·exact .inl ⟨rfl,hf⟩
     ·exact .inr h
    ·exact .inr h
   rcases this with ⟨rfl,hf⟩|h
   ·exact⟨0,by simp,by simp,hf⟩
   ·obtain⟨i,h1,h2,h3⟩:=ih.1 h
    exact⟨i+1,by simpa using h1,by rw[h2];omega,h3⟩
  ·rintro⟨i,h1,h2,h3⟩
   cases i with
   |zero=>
    have h3:fitB y x=true:=h3
    rw[if_pos h3];simp at h2;simp[h2]
   |succ i=>
    have:t∈q5l x (n+1) l:=ih.2 ⟨i,by simpa using h1,by rw[h2];omega,h3⟩
    split
    ·exact List.mem_cons_of_mem _ this
    ·exact this
def putFit(T:List q0i)(m:FitM)(x:q4e):FitM:=if (q5l x 0 T).isEmpty=true then m else q7f m x.Name ((q8b m x.Name).getD []++q5l x 0 T)
theorem M41_L4_eq(F:Nat)(x:q4e)(k:FitM->Option (Option q8a))(hF:1000<=F):∀(l:List q0i) (n:Int) (m:FitM),(∀t,t∈l->t.Methods.length<=200/\t.Methods.Pairwise (fun p q=>Op.bytesLess p.Name q.Name=true))->
  ((q8b m x.Name).getD []).length+l.length<=100000->M41_L4 F x k l n m=k (if (q5l x n l).isEmpty=true then m else q7f m x.Name ((q8b m x.Name).getD []++q5l x n l))
 |[],n,m,_,_=>by simp[M41_L4,q5l]
 |t::l,n,m,ht,hb=>by
  obtain⟨t1,t2⟩:=ht t (by simp)
  simp only[List.length_cons] at hb
  rw[M41_L4,M117_eq F t x t1 t2 hF,Option.bind_some]
  simp only[q3e]
  by_cases hf:fitB t x=true
  ·rw[show q5l x n (t::l)=n::q5l x (n+1) l by rw[q5l,if_pos hf]]
   rw[if_pos hf,if_pos (by simp;omega),M41_L4_eq F x k hF l (n+1) _ (fun q hq=>ht q (List.mem_cons_of_mem _ hq)) (by rw[q9i,if_pos rfl];simp;omega)]
   congr 1
   rw[q9i,if_pos rfl,Option.getD_some,if_neg (show ¬(n::q5l x (n+1) l).isEmpty=true by simp)]
   split
   ·rename_i he;rw[List.isEmpty_iff.1 he]
   ·rw[mput_mput];simp
  ·rw[show q5l x n (t::l)=q5l x (n+1) l by rw[q5l,if_neg hf]]
   rw[if_neg hf,M41_L4_eq F x k hF l (n+1) m (fun q hq=>ht q (List.mem_cons_of_mem _ hq)) (by omega)]
def fitM(T:List q0i)(m:FitM):List q4e->FitM
 |[]=>m
 |x::l=>fitM T (putFit T m x) l
theorem putFit_get(T:List q0i)(m:FitM)(x:q4e)(n:Tx):(q8b (putFit T m x) n).getD []=(q8b m n).getD []++if x.Name=n then q5l x 0 T else []:=by
 unfold putFit
 by_cases h:q5l x 0 T=[]
 ·rw[if_pos (by rw[h];rfl),h];simp
 ·rw[if_neg (by simpa using h),q9i]
  by_cases h2:x.Name=n
  ·subst h2;simp
  ·rw[if_neg h2,if_neg h2];simp
theorem M41_L3_eq(F:Nat)(g:q3c)(k:FitM->Option (Option q8a))(hF:1000<=F)(hT:∀t,t∈g.Types->t.Methods.length<=200/\t.Methods.Pairwise (fun p q=>Op.bytesLess p.Name q.Name=true))(htl:g.Types.length<=500):
  ∀(l:List q4e) (m:FitM),l.Pairwise (fun a b=>Op.bytesLess a.Name b.Name=true)->(∀x,x∈l->(q8b m x.Name).getD []=[])->M41_L3 F g k l m=k (fitM g.Types m l)
 |[],m,_,_=>rfl
 |x::l,m,hp,hm=>by
  have hp:=List.pairwise_cons.1 hp
  rw[M41_L3]
  simp only[q3e]
  rw[M41_L4_eq F x _ hF g.Types 0 m hT (by rw[hm x (by simp)];simp;omega)]
  rw[M41_L3_eq F g k hF hT htl l _ hp.2 (fun y hy=>by
   have:=putFit_get g.Types m x y.Name
   unfold putFit at this
   rw[this,hm y (List.mem_cons_of_mem _ hy),if_neg (bl_ne (hp.1 y hy))];rfl)]
  rfl
theorem z8g(T:List q0i)(n:Tx):∀(l:List q4e) (m:FitM),l.Pairwise (fun a b=>Op.bytesLess a.Name b.Name=true)->(q8b (fitM T m l) n).getD []=(q8b m n).getD []++((l.find? fun x=>x.Name==n).elim [] fun x=>q5l x 0 T)
 |[],m,_=>by simp[fitM]
 |x::l,m,hp=>by
  have hp:=List.pairwise_cons.1 hp
  rw[fitM,z8g T n l _ hp.2,putFit_get,List.find?_cons]
  by_cases h:x.Name=n
  ·have h2:l.find? (fun x=>x.Name==n)=none:=by
    rw[List.find?_eq_none]
    intro y hy
    have:=bl_ne (hp.1 y hy)
    rw[h] at this
    simpa using fun e=>this e.symm
   rw[if_pos h,h2,show(x.Name==n)=true by simpa using h];simp
  ·rw[if_neg h,show(x.Name==n)=false by simpa using h];simp
def wOf(g:q3c)(how:Int)(fs:List Tx):q8a:=
 q8a.mk g (nums [] 0 (g.Funcs.map (·.Name))) (nums [] 0 (g.Types.map (·.Name))) (fitM g.Types [] g.Ifaces) (sset (q7f [] [] true) fs) (how==2)
theorem M41_eq(F:Nat)(g:q3c)(how:Int)(fs:List Tx)(R:q5g g)(hF:1000<=F):M41 F g how fs=some (some (wOf g how fs)):=by
 unfold M41
 simp only[q3e,M41_L1_eq,M41_L2_eq,M41_L5_eq]
 rw[M41_L3_eq F g _ hF (fun t ht=>⟨(R.t t ht).len,(R.t t ht).srt⟩) R.tl g.Ifaces [] R.isrt (fun x _=>rfl)]
 rfl
def opnE(g:q3c)(how:Int)(fs:List Tx):Int:=if chk false g≠0 then chk false g else if feE fs≠0 then feE fs else if how=1\/how=2 then 0 else 7
theorem M78_eq(F:Nat)(g:q3c)(how:Int)(fs:List Tx)(hg:q2o g)(hfs:∀x,x∈fs->x.length<=maxLen)(hF:1000<=F):M78 F g how fs=some (if opnE g how fs≠0 then none else some (wOf g how fs),opnE g how fs):=by
 unfold M78 opnE
 rw[M17_eq F g hg,Option.bind_some,M143_eq F fs hfs,Option.bind_some]
 by_cases h1:chk false g=0
 ·rw[if_neg (by simp[h1]),if_neg (show ¬chk false g≠0 by simp[h1])]
  by_cases h2:feE fs=0
  ·rw[if_neg (by simp[h2]),if_neg (show ¬feE fs≠0 by simp[h2]),M41_eq F g how fs (right_of h1) hF]
   by_cases h3:how=1
   ·simp[h3]
   ·by_cases h4:how=2
    ·simp[h4]
    ·simp[h3,h4]
  ·rw[if_pos (by simpa using h2),if_pos h2];simp[h2]
 ·rw[if_pos (by simpa using h1),if_pos h1];simp[h1]
end Go.Proofs.YtpbkggamiipdmaaGreat
