/- Part of the proof: X, URA, URB, URC, URD. -/
import Derived.Test.YtjofofmllnpkpaaGreatDoorSZA
import Derived.Test.YtjofofmllnpkpaaGreatDoorSPvQ
import Derived.Test.YtjofofmllnpkpaaGreatDoorSR4O
namespace Go.Pv
open Go
theorem bl_cons(x:UInt8)(a:List UInt8)(y:UInt8)(b:List UInt8):Op.bytesLess (x::a) (y::b)=(decide (x<y)||(x==y&&Op.bytesLess a b)):=by
 rw[Op.bytesLess]
theorem bl_irrefl:∀a:List UInt8,Op.bytesLess a a=false
 |[]=>by simp[Op.bytesLess]
 |x::a=>by rw[bl_cons,bl_irrefl a];simp
theorem bl_trans:∀{a b c:List UInt8},Op.bytesLess a b=true->Op.bytesLess b c=true->Op.bytesLess a c=true
 |[],[],_,h,_=>by simp[Op.bytesLess] at h
 |[],y::b,[],_,h=>by simp[Op.bytesLess] at h
 |[],y::b,z::c,_,_=>by simp[Op.bytesLess]
 |x::a,[],_,h,_=>by simp[Op.bytesLess] at h
 |x::a,y::b,[],_,h=>by simp[Op.bytesLess] at h
 |x::a,y::b,z::c,h,g=>by
  rw[bl_cons] at *
  simp only[Bool.or_eq_true,decide_eq_true_eq,Bool.and_eq_true,beq_iff_eq,UInt8.lt_iff_toNat_lt] at *
  rcases h with h|⟨rfl,h⟩<;>rcases g with g|⟨rfl,g⟩
  ·exact .inl (by omega)
  ·exact .inl h
  ·exact .inl g
  ·exact .inr ⟨rfl,bl_trans h g⟩
theorem bl_tri:∀a b:List UInt8,Op.bytesLess a b=true\/a=b\/Op.bytesLess b a=true
 |[],[]=>by simp
 |[],y::b=>by simp[Op.bytesLess]
 |x::a,[]=>by simp[Op.bytesLess]
 |x::a,y::b=>by
  rw[bl_cons,bl_cons]
  simp only[Bool.or_eq_true,decide_eq_true_eq,Bool.and_eq_true,beq_iff_eq,UInt8.lt_iff_toNat_lt,List.cons.injEq]
  rcases Nat.lt_trichotomy x.toNat y.toNat with h|h|h
  ·exact .inl (.inl h)
  ·have:=UInt8.toNat_inj.1 h
   subst this
   rcases bl_tri a b with h|h|h
   ·exact .inl (.inr ⟨rfl,h⟩)
   ·exact .inr (.inl ⟨rfl,h⟩)
   ·exact .inr (.inr (.inr ⟨rfl,h⟩))
  ·exact .inr (.inr (.inl h))
theorem bl_asymm{a b:List UInt8}(h:Op.bytesLess a b=true):Op.bytesLess b a=false:=by
 cases h':Op.bytesLess b a with
 |false=>rfl
 |true=>have:=bl_trans h h';rw[bl_irrefl] at this;simp at this
theorem bl_ne{a b:List UInt8}(h:Op.bytesLess a b=true):a≠b:=by rintro rfl;rw[bl_irrefl] at h;simp at h
theorem bl_gt(a b:List UInt8):(!(Op.bytesLess a b||a==b))=Op.bytesLess b a:=by
 rcases bl_tri a b with h|h|h
 ·rw[h,bl_asymm h];simp
 ·subst h;simp[bl_irrefl]
 ·rw[h,bl_asymm h];simp;exact fun e=>bl_ne h e.symm
def cmpS(a b:List UInt8):Int:=if Op.bytesLess a b=true then -1 else if Op.bytesLess b a=true then 1 else 0
theorem cmpS_lt{a b:List UInt8}:cmpS a b<0<->Op.bytesLess a b=true:=by unfold cmpS;split<;>(try split)<;>simp_all
theorem idxL{α:Type}{g:List α->Int->Option Int}{k:Option Int}(p:α->Bool)(h0:∀n,g [] n=k)(h1:∀x l n,g (x::l) n=if p x=true then some n else g l (n+1)):
  ∀l (n:Nat),g l n=if l.any p=true then some ((n+l.findIdx p:Nat):Int) else k
 |[],n=>by simp[h0]
 |x::l,n=>by
  have e:((n:Int)+1)=((n+1:Nat):Int):=rfl
  rw[h1,e,idxL p h0 h1 l (n+1)]
  cases h:p x
  ·have e2:n+1+l.findIdx p=n+(l.findIdx p+1):=by omega
   simp only[List.any_cons,h,Bool.false_or,List.findIdx_cons,cond_false,e2,Bool.false_eq_true,if_false]
  ·simp[List.findIdx_cons,h]
theorem bytesL{β:Type}{g:Nat->Int->Option β}{k:Option β}{f:β}(s:List UInt8)(p:UInt8->Bool)(h0:∀n,g 0 n=k)
  (h1:∀m n,g (m+1) n=(idx s n).bind fun c=>if p c=true then g m (n+1) else some f):
  ∀(m n:Nat),n+m=s.length->g m n=if (s.drop n).all p=true then k else some f
 |0,n,h=>by rw[h0,List.drop_eq_nil_of_le (by omega)];simp
 |m+1,n,h=>by
  have hn:n<s.length:=by omega
  have e:((n:Int)+1)=((n+1:Nat):Int):=rfl
  rw[h1,idx_nat hn,Option.bind_some,e,bytesL s p h0 h1 m (n+1) (by omega),List.drop_eq_getElem_cons hn,List.all_cons]
  cases h:p s[n]
  ·simp only[Bool.false_and,Bool.false_eq_true,if_false]
  ·simp only[Bool.true_and,if_true]
theorem ite2{α:Type}{p q:Prop}[Decidable p][Decidable q]{x y:Option α}{a b:α}(h:p<->q)(h1:q->x=some a)(h2:¬q->y=some b):(if p then x else y)=some (if q then a else b):=by
 by_cases hq:q
 ·rw[if_pos (h.2 hq),if_pos hq,h1 hq]
 ·rw[if_neg (fun hp=>hq (h.1 hp)),if_neg hq,h2 hq]
theorem ne0{n:Int}:(n != 0)=true<->n≠0:=by simp
end Go.Pv
namespace Go.Proofs.YtjofofmllnpkpaaGreatDoor
open Go Go.Pv
set_option linter.unusedVariables false
set_option linter.unusedSimpArgs false
set_option maxRecDepth 100000
abbrev Tx:=List UInt8
def vis(c:UInt8):Bool:=decide (33<=c.toNat)&&decide (c.toNat<=126)&&!decide (c.toNat=35)
def nm(s:Tx):Bool:=s.all vis&&decide (1<=s.length)&&decide (s.length<=100)
def le(a b:Tx):Bool:=Op.bytesLess a b||a==b
theorem le_nil{s:Tx}(h:nm s=true):le s []=false:=by
 cases s with
 |nil=>simp[nm] at h
 |cons c s=>simp[le,Op.bytesLess]
theorem le_iff{a b:Tx}:le a b=false<->Op.bytesLess b a=true:=by
 unfold le
 rcases bl_tri a b with h|h|h
 ·simp[h,bl_asymm h]
 ·subst h;simp[bl_irrefl]
 ·simp[h,bl_asymm h,(bl_ne h).symm]
theorem M126_eq(F:Nat)(s:Tx)(h:s.length<=maxLen):M126 F s=some (nm s):=by
 have h':(s.length:Int)<=9223372036854775807:=by have:s.length<=9223372036854775807:=h;omega
 unfold M126
 rw[jn_def,if_pos h',Int.toNat_natCast]
 generalize hk:(if (!(s==[]))=true then some (decide ((s.length:Int)<=100)) else some false)=k
 have:=bytesL (g:=M126_L1 F s k) (k:=k) (f:=false) s vis (fun _=>rfl) (fun m n=>by
  rw[M126_L1]
  cases hi:idx s n with
  |none=>rfl
  |some c=>
   simp only[Option.bind_some]
   by_cases h1:c.toNat<33
   ·rw[if_t (by omega)];simp[vis];omega
   ·rw[if_f (by omega)]
    by_cases h2:c.toNat>126
    ·rw[if_t (by omega)];simp[vis];omega
    ·rw[if_f (by omega)]
     by_cases h3:c.toNat=35
     ·rw[if_pos (by simp[h3])];simp[vis,h3]
     ·rw[if_neg (by simp;omega),if_pos];simp[vis];omega) s.length 0 (by omega)
 rw[show((0:Nat):Int)=0 from rfl] at this
 rw[this,List.drop_zero,<-hk]
 unfold nm
 cases s.all vis
 ·simp
 ·cases s with
  |nil=>simp
  |cons c s=>simp only[if_true,Bool.true_and];rw[if_pos (by simp)];congr 1;rw[Bool.eq_iff_iff];simp only[decide_eq_true_eq,Bool.and_eq_true,List.length_cons];omega
theorem M132_eq(F:Nat)(s:Tx)(h:s.length<=maxLen):M132 F s=some (nm s):=by
 have h':(s.length:Int)<=9223372036854775807:=by have:s.length<=9223372036854775807:=h;omega
 unfold M132
 rw[jn_def,if_pos h',Int.toNat_natCast]
 generalize hk:(if decide ((s.length:Int)>=1)=true then some (decide ((s.length:Int)<=100)) else some false)=k
 have:=bytesL (g:=M132_L1 F s k) (k:=k) (f:=false) s vis (fun _=>rfl) (fun m n=>by
  rw[M132_L1]
  cases hi:idx s n with
  |none=>rfl
  |some c=>
   simp only[Option.bind_some]
   by_cases h1:c.toNat<33
   ·rw[if_t (by omega)];simp[vis];omega
   ·rw[if_f (by omega)]
    by_cases h2:c.toNat>126
    ·rw[if_t (by omega)];simp[vis];omega
    ·rw[if_f (by omega)]
     by_cases h3:c.toNat=35
     ·rw[if_pos (by simp[h3])];simp[vis,h3]
     ·rw[if_neg (by simp;omega),if_pos];simp[vis];omega) s.length 0 (by omega)
 rw[show((0:Nat):Int)=0 from rfl] at this
 rw[this,List.drop_zero,<-hk]
 unfold nm
 cases s.all vis
 ·simp
 ·simp only[if_true,Bool.true_and]
  by_cases h1:1<=s.length
  ·rw[if_t (by omega)];congr 1;rw[Bool.eq_iff_iff];simp only[decide_eq_true_eq,Bool.and_eq_true];omega
  ·rw[if_f (by omega)];congr 1;symm;rw[Bool.eq_false_iff];simp only[decide_eq_true_eq,Bool.and_eq_true,ne_eq];omega
def nmd(s before:Tx)(first:Bool):Int:=if !nm s then 8 else if !first then (if le s before then 10 else 0) else 0
theorem M125_eq(F:Nat)(s b:Tx)(f:Bool)(h:s.length<=maxLen):M125 F s b f=some (nmd s b f):=by
 unfold M125 nmd
 rw[M126_eq F s h,Option.bind_some,jn_def]
 cases nm s
 ·simp
 ·cases f
  ·simp[le];split<;>rfl
  ·simp
def nme(s:Tx)(p:Option Tx):Int:=if !nm s then 8 else match p with|some b=>if le s b then 10 else 0|none=>0
theorem nmd_first(s b:Tx):nmd s b true=nme s none:=by unfold nmd nme;cases nm s<;>rfl
theorem nmd_next(s b:Tx):nmd s b false=nme s (some b):=by unfold nmd nme;cases nm s<;>rfl
theorem nme_zero{s:Tx}{p:Option Tx}(h:nme s p=0):nm s=true/\∀b,p=some b->Op.bytesLess b s=true:=by
 unfold nme at h
 cases hn:nm s
 ·simp[hn] at h
 ·refine⟨rfl,fun b hb=>?_⟩
  subst hb
  simp only[hn,Bool.not_true,Bool.false_eq_true,if_false] at h
  split at h
  ·simp at h
  ·rename_i hl;exact le_iff.1 (by simpa using hl)
abbrev SetM:=List (Tx×Bool)
def sset(m:SetM):List Tx->SetM
 |[]=>m
 |x::l=>sset (mput m x true) l
def has(m:SetM)(x:Tx):Bool:=(mget m x).getD false
theorem has_sset(x:Tx):∀(l:List Tx) (m:SetM),has (sset m l) x=(has m x||l.contains x)
 |[],m=>by simp[sset]
 |y::l,m=>by
  rw[sset,has_sset x l,List.contains_cons]
  unfold has
  rw[mget_mput]
  by_cases h:y=x
  ·subst h;simp
  ·rw[if_neg h]
   have:(x==y)=false:=by simpa using fun e=>h e.symm
   rw[this,Bool.false_or]
theorem has_set(x:Tx)(l:List Tx):has (sset [] l) x=l.contains x:=by rw[has_sset];simp[has,mget]
def methE:Option Tx->List Tx->Int
 |_,[]=>0
 |p,s::l=>if nme s p≠0 then nme s p else methE (some s) l
def ifE:Option Tx->List TIface->Int
 |_,[]=>0
 |p,x::l=>if nme x.Name p≠0 then nme x.Name p else if x.Methods=[] then 13 else if 200<x.Methods.length then 3 else if methE none x.Methods≠0 then methE none x.Methods else ifE (some x.Name) l
def mtE(fs:Tx->Bool)(lo:Bool):Option Tx->List TMethod->Int
 |_,[]=>0
 |p,m::l=>if nme m.Name p≠0 then nme m.Name p else if (!lo&&!fs m.Func)=true then 4 else mtE fs lo (some m.Name) l
def tyE(fs:Tx->Bool)(lo:Bool):Option Tx->List TType->Int
 |_,[]=>0
 |p,x::l=>if nme x.Name p≠0 then nme x.Name p else if 200<x.Methods.length then 3 else if mtE fs lo none x.Methods≠0 then mtE fs lo none x.Methods else tyE fs lo (some x.Name) l
def clE(fs:Tx->Bool)(is:Tx->Option (List Tx))(lo:Bool)(c:TCall):Int:=
 if c.Kind=1 then (if (!lo&&!fs c.Target)=true then 4 else if c.Method≠[] then 2 else if c.Feature≠[]/\nm c.Feature=false then 8 else 0)
 else if c.Kind=2 then (if (!lo&&!((is c.Target).elim false fun l=>l.contains c.Method))=true then 4 else if c.Feature≠[]/\nm c.Feature=false then 8 else 0) else 7
def csE(fs:Tx->Bool)(is:Tx->Option (List Tx))(lo:Bool):List TCall->Int
 |[]=>0
 |c::l=>if clE fs is lo c≠0 then clE fs is lo c else csE fs is lo l
def lsE(there:Tx->Bool)(lo:Bool):Option Tx->List Tx->Int
 |_,[]=>0
 |p,s::l=>if (!lo&&!there s)=true then 4 else if (p.elim false fun b=>le s b)=true then 10 else lsE there lo (some s) l
def fnE(fs ts:Tx->Bool)(is:Tx->Option (List Tx))(lo:Bool):Option Tx->List TFunc->Int
 |_,[]=>0
 |p,x::l=>if nme x.Name p≠0 then nme x.Name p else if nm x.Component=false then 8 else if 200<x.Calls.length then 3 else if csE fs is lo x.Calls≠0 then csE fs is lo x.Calls else if lsE ts lo none x.Makes≠0 then lsE ts lo none x.Makes else fnE fs ts is lo (some x.Name) l
def ifm(m:List (Tx×TIface)):List TIface->List (Tx×TIface)
 |[]=>m
 |x::l=>ifm (mput m x.Name x) l
def fsOf(g:TGraph):Tx->Bool:=fun x=>(g.Funcs.map (·.Name)).contains x
def tsOf(g:TGraph):Tx->Bool:=fun x=>(g.Types.map (·.Name)).contains x
def isOf(g:TGraph):Tx->Option (List Tx):=fun x=>(mget (ifm [] g.Ifaces) x).map (·.Methods)
def chk(lo:Bool)(g:TGraph):Int:=
 if 200<g.Ifaces.length then 3 else if 500<g.Types.length then 3 else if 3000<g.Funcs.length then 3
 else if ifE none g.Ifaces≠0 then ifE none g.Ifaces
 else if tyE (fsOf g) lo none g.Types≠0 then tyE (fsOf g) lo none g.Types
 else if fnE (fsOf g) (tsOf g) (isOf g) lo none g.Funcs≠0 then fnE (fsOf g) (tsOf g) (isOf g) lo none g.Funcs
 else lsE (fsOf g) lo none g.Entries
theorem M60_L3_eq{F:Nat}(k:SetM->Option Treach_checker):∀(l:List TFunc) (m:SetM),M60_L3 F k l m=k (sset m (l.map (·.Name)))
 |[],m=>rfl
 |x::l,m=>by rw[M60_L3,M60_L3_eq k l];rfl
theorem M60_L2_eq{F:Nat}(k:SetM->Option Treach_checker):∀(l:List TType) (m:SetM),M60_L2 F k l m=k (sset m (l.map (·.Name)))
 |[],m=>rfl
 |x::l,m=>by rw[M60_L2,M60_L2_eq k l];rfl
theorem M60_L1_eq{F:Nat}(k:List (Tx×TIface)->Option Treach_checker):∀(l:List TIface) (m:List (Tx×TIface)),M60_L1 F k l m=k (ifm m l)
 |[],m=>rfl
 |x::l,m=>by rw[M60_L1,M60_L1_eq k l];rfl
def kOf(g:TGraph)(lo:Bool):Treach_checker:=Treach_checker.mk lo (ifm [] g.Ifaces) (sset [] (g.Types.map (·.Name))) (sset [] (g.Funcs.map (·.Name)))
theorem M60_eq(F:Nat)(g:TGraph)(lo:Bool):M60 F g lo=some (kOf g lo):=by
 unfold M60
 simp only[jn_def,M60_L1_eq,M60_L2_eq,M60_L3_eq]
 rfl
def pz(n:Int)(p:Option Tx)(s:Tx):Prop:=match p with|none=>n=0|some b=>n>0/\s=b
theorem nmd_pz{n:Int}{p:Option Tx}{s x:Tx}(h:pz n p s):nmd x s (n==0)=nme x p:=by
 cases p with
 |none=>have h:n=0:=h;subst h;exact nmd_first x s
 |some b=>
  obtain⟨h1,h2⟩:=h
  subst h2
  rw[show(n==0)=false by simp;omega];exact nmd_next x s
theorem M89_L2_eq(F:Nat)(k:Option Int):∀(l:List Tx) (n:Int) (s:Tx) (p:Option Tx),(∀x,x∈l->x.length<=maxLen)->0<=n->pz n p s->M89_L2 F k l n s=if methE p l≠0 then some (methE p l) else k
 |[],n,s,p,_,_,_=>by simp[M89_L2,methE]
 |x::l,n,s,p,hx,hn,hp=>by
  rw[M89_L2,M125_eq F x s _ (hx x (by simp)),Option.bind_some,nmd_pz hp,methE]
  by_cases h:nme x p=0
  ·simp only[h,bne_self_eq_false,Bool.false_eq_true,ne_eq,not_true_eq_false,if_false]
   exact M89_L2_eq F k l (n+1) x (some x) (fun y hy=>hx y (List.mem_cons_of_mem _ hy)) (by omega) ⟨by omega,rfl⟩
  ·rw[if_pos (by simpa using h),if_pos h,if_pos h]
theorem M89_L1_eq(F:Nat)(k:Option Int):∀(l:List TIface) (n:Int) (s:Tx) (p:Option Tx),(∀x,x∈l->okTIface x)->0<=n->pz n p s->M89_L1 F k l n s=if ifE p l≠0 then some (ifE p l) else k
 |[],n,s,p,_,_,_=>by simp[M89_L1,ifE]
 |x::l,n,s,p,hx,hn,hp=>by
  obtain⟨o1,⟨o2,_⟩,_⟩:=hx x (by simp)
  rw[M89_L1]
  simp only[jn_def]
  rw[M125_eq F x.Name s _ o1,Option.bind_some,nmd_pz hp,ifE]
  by_cases h:nme x.Name p=0
  ·simp only[h,bne_self_eq_false,Bool.false_eq_true,ne_eq,not_true_eq_false,if_false]
   by_cases h1:x.Methods=[]
   ·rw[if_pos (by simp[h1]),if_pos h1];simp
   ·rw[if_neg (by simpa using h1),if_neg h1]
    by_cases h2:200<x.Methods.length
    ·rw[if_t (by omega),if_pos h2];simp
    ·rw[if_f (by omega),if_neg h2,M89_L2_eq F _ _ 0 [] none o2 (by omega) rfl]
     by_cases h3:methE none x.Methods=0
     ·simp only[h3,bne_self_eq_false,Bool.false_eq_true,ne_eq,not_true_eq_false,if_false]
      exact M89_L1_eq F k l (n+1) x.Name (some x.Name) (fun y hy=>hx y (List.mem_cons_of_mem _ hy)) (by omega) ⟨by omega,rfl⟩
     ·rw[if_pos h3,if_pos h3,if_pos h3]
  ·rw[if_pos (by simpa using h),if_pos h,if_pos h]
theorem M90_L2_eq(F:Nat)(a:Treach_checker)(fs:Tx->Bool)(hf:∀x,(mget a.funcs x).getD false=fs x)(k:Option Int):∀(l:List TMethod) (n:Int) (s:Tx) (p:Option Tx),(∀x,x∈l->x.Name.length<=maxLen)->0<=n->pz n p s->M90_L2 F a k l n s=if mtE fs a.loose p l≠0 then some (mtE fs a.loose p l) else k
 |[],n,s,p,_,_,_=>by simp[M90_L2,mtE]
 |x::l,n,s,p,hx,hn,hp=>by
  have ih:=M90_L2_eq F a fs hf k l (n+1) x.Name (some x.Name) (fun y hy=>hx y (List.mem_cons_of_mem _ hy)) (by omega) ⟨by omega,rfl⟩
  rw[M90_L2]
  simp only[jn_def]
  rw[M125_eq F x.Name s _ (hx x (by simp)),Option.bind_some,nmd_pz hp,mtE,ih,hf]
  by_cases h:nme x.Name p=0
  ·simp only[h,bne_self_eq_false,Bool.false_eq_true,ne_eq,not_true_eq_false,if_false]
   cases a.loose<;>cases fs x.Func<;>simp
  ·rw[if_pos (by simpa using h),if_pos h,if_pos h]
theorem M90_L1_eq(F:Nat)(a:Treach_checker)(fs:Tx->Bool)(hf:∀x,(mget a.funcs x).getD false=fs x)(k:Option Int):∀(l:List TType) (n:Int) (s:Tx) (p:Option Tx),(∀x,x∈l->okTType x)->0<=n->pz n p s->M90_L1 F a k l n s=if tyE fs a.loose p l≠0 then some (tyE fs a.loose p l) else k
 |[],n,s,p,_,_,_=>by simp[M90_L1,tyE]
 |x::l,n,s,p,hx,hn,hp=>by
  obtain⟨o1,⟨o2,_⟩,_⟩:=hx x (by simp)
  rw[M90_L1]
  simp only[jn_def]
  rw[M125_eq F x.Name s _ o1,Option.bind_some,nmd_pz hp,tyE]
  by_cases h:nme x.Name p=0
  ·simp only[h,bne_self_eq_false,Bool.false_eq_true,ne_eq,not_true_eq_false,if_false]
   by_cases h2:200<x.Methods.length
   ·rw[if_t (by omega),if_pos h2];simp
   ·rw[if_f (by omega),if_neg h2,M90_L2_eq F a fs hf _ _ 0 [] none (fun y hy=>(o2 y hy).1) (by omega) rfl]
    by_cases h3:mtE fs a.loose none x.Methods=0
    ·simp only[h3,bne_self_eq_false,Bool.false_eq_true,ne_eq,not_true_eq_false,if_false]
     exact M90_L1_eq F a fs hf k l (n+1) x.Name (some x.Name) (fun y hy=>hx y (List.mem_cons_of_mem _ hy)) (by omega) ⟨by omega,rfl⟩
    ·rw[if_pos h3,if_pos h3,if_pos h3]
  ·rw[if_pos (by simpa using h),if_pos h,if_pos h]
theorem M169_eq(F:Nat)(l:List Tx)(x:Tx):M169 F l x=some (l.contains x):=by
 unfold M169 M185
 rw[jn_def]
 have:=idxL (g:=M185_L1 F x (some (-1))) (fun y:Tx=>x==y) (fun _=>rfl) (fun y l n=>by rw[M185_L1]) l 0
 rw[show((0:Nat):Int)=0 from rfl] at this
 rw[this]
 have e:(l.any fun y=>x==y)=l.contains x:=by rw[List.contains_eq_any_beq]
 rw[e]
 cases l.contains x
 ·rfl
 ·simp
theorem M127_eq(F:Nat)(a:Treach_checker)(fs:Tx->Bool)(is:Tx->Option (List Tx))(hf:∀x,(mget a.funcs x).getD false=fs x)(hi:∀x,(mget a.ifaces x).map (·.Methods)=is x)(c:TCall)(hc:c.Feature.length<=maxLen):M127 F a c=some (clE fs is a.loose c):=by
 unfold M127 clE
 rw[jn_def,M126_eq F _ hc,<-hi,hf]
 simp only[Option.bind_some,M169_eq]
 have tail:(if (!(c.Feature==([]:Tx)))=true then if (!nm c.Feature)=true then some (8:Int) else some 0 else some 0)=some (if c.Feature≠[]/\nm c.Feature=false then 8 else 0):=by
  by_cases h1:c.Feature=[]<;>cases h2:nm c.Feature<;>simp[h1]
 rw[tail]
 by_cases k1:c.Kind=1
 ·rw[if_pos (by simp[k1]),if_pos k1]
  by_cases k3:c.Method=[]<;>cases a.loose<;>cases fs c.Target<;>simp[k3]
 ·rw[if_neg (by simpa using k1),if_neg k1]
  by_cases k2:c.Kind=2
  ·rw[if_pos (by simp[k2]),if_pos k2]
   cases hm:mget a.ifaces c.Target with
   |none=>cases a.loose<;>simp
   |some x=>
    cases a.loose
    ·cases hcc:x.Methods.contains c.Method<;>simp[hcc]<;>simp_all
    ·simp
  ·rw[if_neg (by simpa using k2),if_neg k2]
theorem M91_L2_eq(F:Nat)(a:Treach_checker)(fs:Tx->Bool)(is:Tx->Option (List Tx))(hf:∀x,(mget a.funcs x).getD false=fs x)(hi:∀x,(mget a.ifaces x).map (·.Methods)=is x)(k:Option Int):∀(l:List TCall),(∀c,c∈l->c.Feature.length<=maxLen)->M91_L2 F a k l=if csE fs is a.loose l≠0 then some (csE fs is a.loose l) else k
 |[],_=>by simp[M91_L2,csE]
 |c::l,h=>by
  rw[M91_L2,M127_eq F a fs is hf hi c (h c (by simp)),Option.bind_some,csE,M91_L2_eq F a fs is hf hi k l (fun c hc=>h c (List.mem_cons_of_mem _ hc))]
  by_cases h1:clE fs is a.loose c=0
  ·simp only[h1,bne_self_eq_false,Bool.false_eq_true,ne_eq,not_true_eq_false,if_false]
  ·rw[if_pos (by simpa using h1),if_pos h1,if_pos h1]
theorem drop_at{α:Type}{a l:List α}{x:α}{n:Nat}(h:a.drop n=x::l):∃hn:n<a.length,a[n]=x/\a.drop (n+1)=l:=by
 have hn:n<a.length:=by
  rcases Nat.lt_or_ge n a.length with h2|h2
  ·exact h2
  ·rw[List.drop_eq_nil_of_le h2] at h;simp at h
 rw[List.drop_eq_getElem_cons hn] at h
 simp only[List.cons.injEq] at h
 exact⟨hn,h.1,h.2⟩
theorem prev_idx{α:Type}{a:List α}{n:Nat}(hn:n<a.length)(h0:n≠0)(hb:a.length<=maxLen):∃h:n - 1<a.length,idx a (w64 ((n:Int) - 1))=some a[n - 1]:=by
 have hb':a.length<=9223372036854775807:=hb
 refine⟨by omega,?_⟩
 rw[w64_id (by omega) (by omega),show(n:Int) - 1=((n - 1:Nat):Int) by omega]
 exact idx_nat _
def prv(a:List Tx)(n:Nat):Option Tx:=if n=0 then none else a[n - 1]?
theorem prv_zero(a:List Tx):prv a 0=none:=rfl
theorem prv_next{a:List Tx}{x:Tx}{n:Nat}(hn:n<a.length)(hx:a[n]=x):prv a (n+1)=some x:=by
 unfold prv
 rw[if_neg (by omega),Nat.add_sub_cancel,List.getElem?_eq_getElem hn,hx]
theorem prv_some{a:List Tx}{n:Nat}(hn:n<a.length)(h0:n≠0):∃h:n - 1<a.length,prv a n=some a[n - 1]:=by
 refine⟨by omega,?_⟩
 unfold prv
 rw[if_neg h0,List.getElem?_eq_getElem (by omega)]
theorem M92_L1_eq(F:Nat)(a:Treach_checker)(a2:List Tx)(a3:SetM)(ha:a2.length<=maxLen)(k:Option Int):∀(l:List Tx) (n:Nat),a2.drop n=l->M92_L1 F a a2 a3 k l n=if lsE (has a3) a.loose (prv a2 n) l≠0 then some (lsE (has a3) a.loose (prv a2 n) l) else k
 |[],n,_=>by simp[M92_L1,lsE]
 |x::l,n,hd=>by
  obtain⟨hn,hx,hl⟩:=drop_at hd
  have ih:=M92_L1_eq F a a2 a3 ha k l (n+1) hl
  rw[prv_next hn hx,show((n+1:Nat):Int)=(n:Int)+1 from rfl] at ih
  rw[M92_L1]
  simp only[jn_def]
  rw[ih,lsE]
  have e:(mget a3 x).getD false=has a3 x:=rfl
  rw[e]
  by_cases h0:n=0
  ·subst h0
   rw[prv_zero]
   cases a.loose<;>cases has a3 x<;>simp
  ·obtain⟨_,e1⟩:=prev_idx hn h0 ha
   obtain⟨_,e2⟩:=prv_some hn h0
   rw[if_t (show(n:Int)>0 by omega),e1,e2]
   simp only[Option.bind_some,Option.elim_some]
   have e3:(Op.bytesLess x a2[n - 1]||x==a2[n - 1])=le x a2[n - 1]:=rfl
   rw[e3]
   cases a.loose<;>cases has a3 x<;>by_cases hc:le x a2[n - 1]=true<;>simp[hc]
theorem M92_eq(F:Nat)(a:Treach_checker)(a2:List Tx)(a3:SetM)(ha:a2.length<=maxLen):M92 F a a2 a3=some (lsE (has a3) a.loose none a2):=by
 unfold M92
 rw[jn_def]
 have:=M92_L1_eq F a a2 a3 ha (some 0) a2 0 rfl
 rw[show((0:Nat):Int)=0 from rfl,prv_zero] at this
 rw[this]
 split
 ·rfl
 ·rename_i h;simp only[ne_eq,Decidable.not_not] at h;rw[h]
theorem M91_L1_eq(F:Nat)(a:Treach_checker)(fs ts:Tx->Bool)(is:Tx->Option (List Tx))(hf:∀x,(mget a.funcs x).getD false=fs x)(hi:∀x,(mget a.ifaces x).map (·.Methods)=is x)(ht:has a.types=ts)(k:Option Int):
  ∀(l:List TFunc) (n:Int) (s:Tx) (p:Option Tx),(∀x,x∈l->okTFunc x)->0<=n->pz n p s->M91_L1 F a k l n s=if fnE fs ts is a.loose p l≠0 then some (fnE fs ts is a.loose p l) else k
 |[],n,s,p,_,_,_=>by simp[M91_L1,fnE]
 |x::l,n,s,p,hx,hn,hp=>by
  obtain⟨o1,o2,⟨o3,_⟩,⟨_,o4⟩,_⟩:=hx x (by simp)
  rw[M91_L1]
  simp only[jn_def]
  rw[M125_eq F x.Name s _ o1,Option.bind_some,nmd_pz hp,fnE]
  by_cases h:nme x.Name p=0
  ·simp only[h,bne_self_eq_false,Bool.false_eq_true,ne_eq,not_true_eq_false,if_false]
   rw[M126_eq F _ o2,Option.bind_some]
   by_cases h1:nm x.Component=false
   ·rw[if_pos (by simp[h1]),if_pos h1];simp
   ·rw[if_neg (by simpa using h1),if_neg h1]
    by_cases h2:200<x.Calls.length
    ·rw[if_t (by omega),if_pos h2];simp
    ·rw[if_f (by omega),if_neg h2,M91_L2_eq F a fs is hf hi _ _ (fun c hc=>(o3 c hc).2.2.2.1)]
     by_cases h3:csE fs is a.loose x.Calls=0
     ·simp only[h3,bne_self_eq_false,Bool.false_eq_true,ne_eq,not_true_eq_false,if_false]
      rw[M92_eq F a _ _ o4,Option.bind_some,ht]
      by_cases h4:lsE ts a.loose none x.Makes=0
      ·simp only[h4,bne_self_eq_false,Bool.false_eq_true,ne_eq,not_true_eq_false,if_false]
       exact M91_L1_eq F a fs ts is hf hi ht k l (n+1) x.Name (some x.Name) (fun y hy=>hx y (List.mem_cons_of_mem _ hy)) (by omega) ⟨by omega,rfl⟩
      ·rw[if_pos (by simpa using h4),if_pos h4,if_pos h4]
     ·rw[if_pos h3,if_pos h3,if_pos h3]
  ·rw[if_pos (by simpa using h),if_pos h,if_pos h]
theorem orz{n:Int}:(if n≠0 then some n else some 0)=some n:=by split<;>simp_all
theorem M61_eq(F:Nat)(g:TGraph)(lo:Bool)(h:okTGraph g):M61 F (kOf g lo) g=some (chk lo g):=by
 obtain⟨⟨o1,_⟩,⟨o2,_⟩,⟨o3,_⟩,⟨_,o4⟩,_⟩:=h
 have hf:∀x,(mget (kOf g lo).funcs x).getD false=fsOf g x:=fun x=>has_set x _
 have ht:has (kOf g lo).types=tsOf g:=funext fun x=>has_set x _
 have hi:∀x,(mget (kOf g lo).ifaces x).map (·.Methods)=isOf g x:=fun x=>rfl
 have hf':has (kOf g lo).funcs=fsOf g:=funext fun x=>has_set x _
 unfold M61 chk M89 M90 M91
 simp only[jn_def]
 rw[M89_L1_eq F _ _ 0 [] none o1 (by omega) rfl,M90_L1_eq F _ _ hf _ _ 0 [] none o2 (by omega) rfl,M91_L1_eq F _ _ _ _ hf hi ht _ _ 0 [] none o3 (by omega) rfl,orz,orz,orz,M92_eq F _ _ _ o4,hf',show(kOf g lo).loose=lo from rfl]
 simp only[Option.bind_some]
 by_cases h1:200<g.Ifaces.length
 ·rw[if_t (by omega),if_pos h1]
 rw[if_f (by omega),if_neg h1]
 by_cases h2:500<g.Types.length
 ·rw[if_t (by omega),if_pos h2]
 rw[if_f (by omega),if_neg h2]
 by_cases h3:3000<g.Funcs.length
 ·rw[if_t (by omega),if_pos h3]
 rw[if_f (by omega),if_neg h3]
 refine ite2 ne0 (fun _=>rfl) (fun _=>ite2 ne0 (fun _=>rfl) (fun _=>ite2 ne0 (fun _=>rfl) (fun _=>rfl)))
theorem M15_eq(F:Nat)(g:TGraph)(h:okTGraph g):M15 F g=some (chk false g):=by
 unfold M15
 rw[M60_eq,Option.bind_some,M61_eq F g false h];rfl
theorem mput_mput{α β:Type}[DecidableEq α](k:α)(a b:β):∀m:List (α×β),mput (mput m k a) k b=mput m k b
 |[]=>by simp[mput]
 |(q,v)::m=>by
  by_cases h:q=k
  ·simp[mput,h]
  ·simp[mput,h,mput_mput k a b m]
abbrev MM:=List (Tx×SetM)
theorem M65_L2_eq(F:Nat)(x:TIface)(k:MM->Option Tprovenderref6_names)(m:MM):∀(l:List Tx) (a:SetM),M65_L2 F x k l (mput m x.Name a)=k (mput m x.Name (sset a l))
 |[],a=>rfl
 |y::l,a=>by
  rw[M65_L2,mget_mput,if_pos rfl]
  simp only[Option.isSome_some,if_true,Option.getD_some]
  rw[mput_mput,M65_L2_eq F x k m l];rfl
def rfm(m:MM):List TIface->MM
 |[]=>m
 |x::l=>rfm (mput m x.Name (sset [] x.Methods)) l
theorem M65_L1_eq(F:Nat)(k:MM->Option Tprovenderref6_names):∀(l:List TIface) (m:MM),M65_L1 F k l m=k (rfm m l)
 |[],m=>rfl
 |x::l,m=>by
  rw[M65_L1]
  simp only[jn_def]
  rw[M65_L2_eq,M65_L1_eq F k l];rfl
theorem M65_L3_eq{F:Nat}(k:SetM->Option Tprovenderref6_names):∀(l:List TType) (m:SetM),M65_L3 F k l m=k (sset m (l.map (·.Name)))
 |[],m=>rfl
 |x::l,m=>by rw[M65_L3,M65_L3_eq k l];rfl
theorem M65_L4_eq{F:Nat}(k:SetM->Option Tprovenderref6_names):∀(l:List TFunc) (m:SetM),M65_L4 F k l m=k (sset m (l.map (·.Name)))
 |[],m=>rfl
 |x::l,m=>by rw[M65_L4,M65_L4_eq k l];rfl
def nOf(g:TGraph):Tprovenderref6_names:=Tprovenderref6_names.mk (rfm [] g.Ifaces) (sset [] (g.Types.map (·.Name))) (sset [] (g.Funcs.map (·.Name)))
theorem M65_eq(F:Nat)(g:TGraph):M65 F g=some (nOf g):=by
 unfold M65
 simp only[jn_def,M65_L1_eq,M65_L3_eq,M65_L4_eq]
 rfl
theorem rfm_get(t:Tx):∀(l:List TIface) (m:MM) (m':List (Tx×TIface)),mget m t=(mget m' t).map (fun x=>sset [] x.Methods)->mget (rfm m l) t=(mget (ifm m' l) t).map (fun x=>sset [] x.Methods)
 |[],m,m',h=>h
 |x::l,m,m',h=>by
  rw[rfm,ifm]
  refine rfm_get t l _ _ ?_
  rw[mget_mput,mget_mput]
  split
  ·rfl
  ·exact h
theorem rises_eq(F:Nat){a:List Tx}{n:Nat}{x:Tx}(hn:n<a.length)(hx:a[n]=x)(ha:a.length<=maxLen):M98 F a n=some (if ((prv a n).elim false fun b=>le x b)=true then 10 else 0):=by
 unfold M98
 by_cases h0:n=0
 ·subst h0
  rw[if_f (by omega),prv_zero];rfl
 ·obtain⟨_,e1⟩:=prev_idx hn h0 ha
  obtain⟨_,e2⟩:=prv_some hn h0
  rw[if_t (by omega),idx_nat hn,Option.bind_some,e1,Option.bind_some,e2,hx]
  simp only[Option.elim_some]
  have e3:(Op.bytesLess x a[n - 1]||x==a[n - 1])=le x a[n - 1]:=rfl
  rw[e3]
  by_cases hc:le x a[n - 1]=true<;>simp[hc]
theorem nme_prv{x:Tx}{p:Option Tx}:(if nm x=false then (8:Int) else if (p.elim false fun b=>le x b)=true then 10 else 0)=nme x p:=by
 unfold nme
 cases nm x<;>cases p<;>rfl
theorem M95_L2_eq(F:Nat)(x:TIface)(ha:x.Methods.length<=maxLen)(hm:∀s,s∈x.Methods->s.length<=maxLen)(k:Option Int):∀(l:List Tx) (n:Nat),x.Methods.drop n=l->M95_L2 F x k l n=if methE (prv x.Methods n) l≠0 then some (methE (prv x.Methods n) l) else k
 |[],n,_=>by simp[M95_L2,methE]
 |s::l,n,hd=>by
  obtain⟨hn,hx,hl⟩:=drop_at hd
  have hs:s∈x.Methods:=by rw[<-hx];exact List.getElem_mem _
  have ih:=M95_L2_eq F x ha hm k l (n+1) hl
  rw[prv_next hn hx,show((n+1:Nat):Int)=(n:Int)+1 from rfl] at ih
  rw[M95_L2,M132_eq F s (hm s hs),Option.bind_some,rises_eq F hn hx ha,Option.bind_some,ih,methE,<-nme_prv]
  cases nm s<;>by_cases hc:((prv x.Methods n).elim false fun b=>le s b)=true<;>simp[hc]
def bz(s:Tx)(p:Option Tx):Prop:=match p with|none=>s=[]|some b=>s=b
theorem nme_bz{x s:Tx}{p:Option Tx}(h:bz s p):(if nm x=false then (8:Int) else if le x s=true then 10 else 0)=nme x p:=by
 unfold nme
 cases p with
 |none=>
  have h:s=[]:=h
  subst h
  cases hn:nm x
  ·rfl
  ·rw[le_nil hn];rfl
 |some b=>
  have h:s=b:=h
  subst h
  cases nm x<;>rfl
theorem M95_L1_eq(F:Nat)(k:Option Int):∀(l:List TIface) (s:Tx) (p:Option Tx),(∀x,x∈l->okTIface x)->bz s p->M95_L1 F k l s=if ifE p l≠0 then some (ifE p l) else k
 |[],s,p,_,_=>by simp[M95_L1,ifE]
 |x::l,s,p,hx,hp=>by
  obtain⟨o1,⟨o2,o3⟩,_⟩:=hx x (by simp)
  have ih:=M95_L1_eq F k l x.Name (some x.Name) (fun y hy=>hx y (List.mem_cons_of_mem _ hy)) rfl
  have e:=M95_L2_eq F x o3 o2 (M95_L1 F k l x.Name) x.Methods 0 rfl
  rw[show((0:Nat):Int)=0 from rfl,prv_zero] at e
  rw[M95_L1]
  simp only[jn_def]
  rw[M132_eq F x.Name o1,Option.bind_some,ifE,e,ih,<-nme_bz hp]
  have e3:(Op.bytesLess x.Name s||x.Name==s)=le x.Name s:=rfl
  rw[e3]
  cases nm x.Name
  ·simp
  ·by_cases hc:le x.Name s=true
   ·simp[hc]
   ·by_cases h1:x.Methods=[]
    ·simp[hc,h1]
    ·by_cases h2:200<x.Methods.length
     ·rw[if_neg (by simp),if_neg hc,if_neg (by simpa using h1),if_t (by omega)];simp[hc,h1,h2]
     ·rw[if_neg (by simp),if_neg hc,if_neg (by simpa using h1),if_f (by omega)];simp[hc,h1,h2]
      by_cases h3:methE none x.Methods=0<;>simp[h3]
theorem M96_L2_eq(F:Nat)(a:Tprovenderref6_checker)(fs:Tx->Bool)(hf:∀x,(mget a.n.funcs x).getD false=fs x)(k:Option Int):∀(l:List TMethod) (s:Tx) (p:Option Tx),(∀x,x∈l->x.Name.length<=maxLen)->bz s p->M96_L2 F a k l s=if mtE fs a.loose p l≠0 then some (mtE fs a.loose p l) else k
 |[],s,p,_,_=>by simp[M96_L2,mtE]
 |x::l,s,p,hx,hp=>by
  have ih:=M96_L2_eq F a fs hf k l x.Name (some x.Name) (fun y hy=>hx y (List.mem_cons_of_mem _ hy)) rfl
  rw[M96_L2]
  simp only[jn_def]
  rw[M132_eq F x.Name (hx x (by simp)),Option.bind_some,mtE,ih,hf,<-nme_bz hp]
  have e3:(Op.bytesLess x.Name s||x.Name==s)=le x.Name s:=rfl
  rw[e3]
  cases nm x.Name
  ·simp
  ·by_cases hc:le x.Name s=true
   ·simp[hc]
   ·cases a.loose<;>cases fs x.Func<;>simp[hc]
theorem M96_L1_eq(F:Nat)(a:Tprovenderref6_checker)(fs:Tx->Bool)(hf:∀x,(mget a.n.funcs x).getD false=fs x)(k:Option Int):∀(l:List TType) (s:Tx) (p:Option Tx),(∀x,x∈l->okTType x)->bz s p->M96_L1 F a k l s=if tyE fs a.loose p l≠0 then some (tyE fs a.loose p l) else k
 |[],s,p,_,_=>by simp[M96_L1,tyE]
 |x::l,s,p,hx,hp=>by
  obtain⟨o1,⟨o2,o3⟩,_⟩:=hx x (by simp)
  have ih:=M96_L1_eq F a fs hf k l x.Name (some x.Name) (fun y hy=>hx y (List.mem_cons_of_mem _ hy)) rfl
  rw[M96_L1]
  simp only[jn_def]
  rw[M132_eq F x.Name o1,Option.bind_some,tyE,M96_L2_eq F a fs hf _ _ [] none (fun y hy=>(o2 y hy).1) rfl,ih,<-nme_bz hp]
  have e3:(Op.bytesLess x.Name s||x.Name==s)=le x.Name s:=rfl
  rw[e3]
  cases nm x.Name
  ·simp
  ·by_cases hc:le x.Name s=true
   ·simp[hc]
   ·by_cases h2:200<x.Methods.length
    ·rw[if_neg (by simp),if_neg hc,if_t (by omega)];simp[hc,h2]
    ·rw[if_neg (by simp),if_neg hc,if_f (by omega)];simp[hc,h2]
     by_cases h3:mtE fs a.loose none x.Methods=0<;>simp[h3]
theorem M133_eq(F:Nat)(a:Tprovenderref6_checker)(fs:Tx->Bool)(is:Tx->Option (List Tx))(hf:∀x,(mget a.n.funcs x).getD false=fs x)(hi:∀x,mget a.n.ifaces x=(is x).map (sset []))(c:TCall)(hc:c.Feature.length<=maxLen):M133 F a c=some (clE fs is a.loose c):=by
 unfold M133 clE
 rw[jn_def,M132_eq F _ hc,hi,hf]
 simp only[Option.bind_some]
 have tail:(if (!(c.Feature==([]:Tx)))=true then if (!nm c.Feature)=true then some (8:Int) else some 0 else some 0)=some (if c.Feature≠[]/\nm c.Feature=false then 8 else 0):=by
  by_cases h1:c.Feature=[]<;>cases h2:nm c.Feature<;>simp[h1]
 rw[tail]
 by_cases k1:c.Kind=1
 ·rw[if_pos (by simp[k1]),if_pos k1]
  by_cases k3:c.Method=[]<;>cases a.loose<;>cases fs c.Target<;>simp[k3]
 ·rw[if_neg (by simpa using k1),if_neg k1]
  by_cases k2:c.Kind=2
  ·rw[if_pos (by simp[k2]),if_pos k2]
   cases hm:is c.Target with
   |none=>cases a.loose<;>simp
   |some l=>
    have e:(mget (sset [] l) c.Method).getD false=l.contains c.Method:=has_set _ _
    simp only[Option.map_some,Option.isSome_some,if_true,Option.getD_some,e,Option.elim_some]
    cases a.loose<;>by_cases hcc:l.contains c.Method=true<;>simp only[hcc]<;>simp
  ·rw[if_neg (by simpa using k2),if_neg k2]
theorem M97_L2_eq(F:Nat)(a:Tprovenderref6_checker)(fs:Tx->Bool)(is:Tx->Option (List Tx))(hf:∀x,(mget a.n.funcs x).getD false=fs x)(hi:∀x,mget a.n.ifaces x=(is x).map (sset []))(k:Option Int):∀(l:List TCall),(∀c,c∈l->c.Feature.length<=maxLen)->M97_L2 F a k l=if csE fs is a.loose l≠0 then some (csE fs is a.loose l) else k
 |[],_=>by simp[M97_L2,csE]
 |c::l,h=>by
  rw[M97_L2,M133_eq F a fs is hf hi c (h c (by simp)),Option.bind_some,csE,M97_L2_eq F a fs is hf hi k l (fun c hc=>h c (List.mem_cons_of_mem _ hc))]
  by_cases h1:clE fs is a.loose c=0<;>simp[h1]
theorem M97_L3_eq(F:Nat)(a:Tprovenderref6_checker)(x:TFunc)(ha:x.Makes.length<=maxLen)(k:Option Int):∀(l:List Tx) (n:Nat),x.Makes.drop n=l->M97_L3 F a x k l n=if lsE (has a.n.types) a.loose (prv x.Makes n) l≠0 then some (lsE (has a.n.types) a.loose (prv x.Makes n) l) else k
 |[],n,_=>by simp[M97_L3,lsE]
 |s::l,n,hd=>by
  obtain⟨hn,hx,hl⟩:=drop_at hd
  have ih:=M97_L3_eq F a x ha k l (n+1) hl
  rw[prv_next hn hx,show((n+1:Nat):Int)=(n:Int)+1 from rfl] at ih
  rw[M97_L3]
  simp only[jn_def]
  have e:(mget a.n.types s).getD false=has a.n.types s:=rfl
  rw[rises_eq F hn hx ha,Option.bind_some,ih,lsE,e]
  cases a.loose<;>cases has a.n.types s<;>by_cases hc:((prv x.Makes n).elim false fun b=>le s b)=true<;>simp[hc]
theorem M66_L1_eq(F:Nat)(a:Tprovenderref6_checker)(ha:a.g.Entries.length<=maxLen)(k:Option Int):∀(l:List Tx) (n:Nat),a.g.Entries.drop n=l->M66_L1 F a k l n=if lsE (has a.n.funcs) a.loose (prv a.g.Entries n) l≠0 then some (lsE (has a.n.funcs) a.loose (prv a.g.Entries n) l) else k
 |[],n,_=>by simp[M66_L1,lsE]
 |s::l,n,hd=>by
  obtain⟨hn,hx,hl⟩:=drop_at hd
  have ih:=M66_L1_eq F a ha k l (n+1) hl
  rw[prv_next hn hx,show((n+1:Nat):Int)=(n:Int)+1 from rfl] at ih
  rw[M66_L1]
  simp only[jn_def]
  have e:(mget a.n.funcs s).getD false=has a.n.funcs s:=rfl
  rw[rises_eq F hn hx ha,Option.bind_some,ih,lsE,e]
  cases a.loose<;>cases has a.n.funcs s<;>by_cases hc:((prv a.g.Entries n).elim false fun b=>le s b)=true<;>simp[hc]
theorem M97_L1_eq(F:Nat)(a:Tprovenderref6_checker)(fs ts:Tx->Bool)(is:Tx->Option (List Tx))(hf:∀x,(mget a.n.funcs x).getD false=fs x)(hi:∀x,mget a.n.ifaces x=(is x).map (sset []))(ht:has a.n.types=ts)(k:Option Int):
  ∀(l:List TFunc) (s:Tx) (p:Option Tx),(∀x,x∈l->okTFunc x)->bz s p->M97_L1 F a k l s=if fnE fs ts is a.loose p l≠0 then some (fnE fs ts is a.loose p l) else k
 |[],s,p,_,_=>by simp[M97_L1,fnE]
 |x::l,s,p,hx,hp=>by
  obtain⟨o1,o2,⟨o3,_⟩,⟨_,o4⟩,_⟩:=hx x (by simp)
  have ih:=M97_L1_eq F a fs ts is hf hi ht k l x.Name (some x.Name) (fun y hy=>hx y (List.mem_cons_of_mem _ hy)) rfl
  have e:=M97_L3_eq F a x o4 (M97_L1 F a k l x.Name) x.Makes 0 rfl
  rw[show((0:Nat):Int)=0 from rfl,prv_zero] at e
  rw[M97_L1]
  simp only[jn_def]
  rw[M132_eq F x.Name o1,Option.bind_some,M132_eq F x.Component o2,Option.bind_some,fnE,M97_L2_eq F a fs is hf hi _ _ (fun c hc=>(o3 c hc).2.2.2.1),e,ht,ih,<-nme_bz hp]
  have e3:(Op.bytesLess x.Name s||x.Name==s)=le x.Name s:=rfl
  rw[e3]
  cases nm x.Name
  ·simp
  ·by_cases hc:le x.Name s=true
   ·simp[hc]
   ·cases hcm:nm x.Component
    ·simp[hc,hcm]
    ·by_cases h2:200<x.Calls.length
     ·rw[if_neg (by simp),if_neg hc,if_neg (by simp),if_t (by omega)];simp[hc,h2,hcm]
     ·rw[if_neg (by simp),if_neg hc,if_neg (by simp),if_f (by omega)];simp[hc,h2,hcm]
      by_cases h3:csE fs is a.loose x.Calls=0
      ·by_cases h4:lsE ts a.loose none x.Makes=0<;>simp[h3,h4]
      ·simp[h3]
theorem M66_eq(F:Nat)(g:TGraph)(lo:Bool)(h:okTGraph g):M66 F (Tprovenderref6_checker.mk g (nOf g) lo)=some (chk lo g):=by
 obtain⟨⟨o1,_⟩,⟨o2,_⟩,⟨o3,_⟩,⟨_,o4⟩,_⟩:=h
 have hf:∀x,(mget (Tprovenderref6_checker.mk g (nOf g) lo).n.funcs x).getD false=fsOf g x:=fun x=>has_set x _
 have ht:has (Tprovenderref6_checker.mk g (nOf g) lo).n.types=tsOf g:=funext fun x=>has_set x _
 have hi:∀x,mget (Tprovenderref6_checker.mk g (nOf g) lo).n.ifaces x=(isOf g x).map (sset []):=fun x=>by
  show mget (rfm [] g.Ifaces) x=_
  rw[rfm_get x g.Ifaces [] [] rfl]
  unfold isOf
  rw[Option.map_map];rfl
 have hf':has (nOf g).funcs=fsOf g:=funext fun x=>has_set x _
 unfold M66 chk M95 M96 M97
 simp only[jn_def]
 have e:=M66_L1_eq F (Tprovenderref6_checker.mk g (nOf g) lo) o4 (some 0) g.Entries 0 rfl
 rw[show((0:Nat):Int)=0 from rfl,prv_zero] at e
 rw[M95_L1_eq F _ _ [] none o1 rfl,M96_L1_eq F _ _ hf _ _ [] none o2 rfl,M97_L1_eq F _ _ _ _ hf hi ht _ _ [] none o3 rfl,orz,orz,orz]
 simp only at e
 rw[e,hf',orz]
 simp only[Option.bind_some]
 by_cases h1:200<g.Ifaces.length
 ·rw[if_t (by omega),if_pos h1]
 rw[if_f (by omega),if_neg h1]
 by_cases h2:500<g.Types.length
 ·rw[if_t (by omega),if_pos h2]
 rw[if_f (by omega),if_neg h2]
 by_cases h3:3000<g.Funcs.length
 ·rw[if_t (by omega),if_pos h3]
 rw[if_f (by omega),if_neg h3]
 refine ite2 ne0 (fun _=>rfl) (fun _=>ite2 ne0 (fun _=>rfl) (fun _=>ite2 ne0 (fun _=>rfl) (fun _=>rfl)))
theorem M22_eq(F:Nat)(g:TGraph)(h:okTGraph g):M22 F g=some (chk false g):=by
 unfold M22
 rw[M65_eq,Option.bind_some,M66_eq F g false h];rfl
theorem methE_zero:∀{l:List Tx} {p:Option Tx},methE p l=0->(∀b,p=some b->∀x,x∈l->Op.bytesLess b x=true)/\l.Pairwise (fun a b=>Op.bytesLess a b=true)/\∀x,x∈l->nm x=true
 |[],p,_=>⟨by simp,List.Pairwise.nil,by simp⟩
 |s::l,p,h=>by
  rw[methE] at h
  split at h
  ·rename_i hc;exact absurd h hc
  ·rename_i hc
   obtain⟨h1,h2⟩:=nme_zero (s:=s) (p:=p) (by simpa using hc)
   obtain⟨i1,i2,i3⟩:=methE_zero h
   refine⟨fun b hb x hx=>?_,List.pairwise_cons.2 ⟨i1 s rfl,i2⟩,fun x hx=>?_⟩
   ·rcases List.mem_cons.1 hx with rfl|hx
    ·exact h2 b hb
    ·exact bl_trans (h2 b hb) (i1 s rfl x hx)
   ·rcases List.mem_cons.1 hx with rfl|hx
    ·exact h1
    ·exact i3 x hx
theorem lsE_zero{there:Tx->Bool}:∀{l:List Tx} {p:Option Tx},lsE there false p l=0->(∀b,p=some b->∀x,x∈l->Op.bytesLess b x=true)/\l.Pairwise (fun a b=>Op.bytesLess a b=true)/\∀x,x∈l->there x=true
 |[],p,_=>⟨by simp,List.Pairwise.nil,by simp⟩
 |s::l,p,h=>by
  rw[lsE] at h
  split at h
  ·simp at h
  ·rename_i h1
   split at h
   ·simp at h
   ·rename_i h2
    obtain⟨i1,i2,i3⟩:=lsE_zero h
    have hb0:∀b,p=some b->Op.bytesLess b s=true:=fun b hb=>by
     subst hb
     simp only[Option.elim_some] at h2
     exact le_iff.1 (by simpa using h2)
    refine⟨fun b hb x hx=>?_,List.pairwise_cons.2 ⟨i1 s rfl,i2⟩,fun x hx=>?_⟩
    ·rcases List.mem_cons.1 hx with rfl|hx
     ·exact hb0 b hb
     ·exact bl_trans (hb0 b hb) (i1 s rfl x hx)
    ·rcases List.mem_cons.1 hx with rfl|hx
     ·simpa using h1
     ·exact i3 x hx
theorem mtE_zero{fs:Tx->Bool}:∀{l:List TMethod} {p:Option Tx},mtE fs false p l=0->(∀b,p=some b->∀x,x∈l->Op.bytesLess b x.Name=true)/\l.Pairwise (fun a b=>Op.bytesLess a.Name b.Name=true)/\∀x,x∈l->nm x.Name=true/\fs x.Func=true
 |[],p,_=>⟨by simp,List.Pairwise.nil,by simp⟩
 |s::l,p,h=>by
  rw[mtE] at h
  split at h
  ·rename_i hc;exact absurd h hc
  ·rename_i hc
   obtain⟨h1,h2⟩:=nme_zero (s:=s.Name) (p:=p) (by simpa using hc)
   split at h
   ·simp at h
   ·rename_i h3
    obtain⟨i1,i2,i3⟩:=mtE_zero h
    refine⟨fun b hb x hx=>?_,List.pairwise_cons.2 ⟨i1 s.Name rfl,i2⟩,fun x hx=>?_⟩
    ·rcases List.mem_cons.1 hx with rfl|hx
     ·exact h2 b hb
     ·exact bl_trans (h2 b hb) (i1 s.Name rfl x hx)
    ·rcases List.mem_cons.1 hx with rfl|hx
     ·exact⟨h1,by simpa using h3⟩
     ·exact i3 x hx
structure RightI(x:TIface):Prop where
 nam:nm x.Name=true
 ne:x.Methods≠[]
 len:x.Methods.length<=200
 srt:x.Methods.Pairwise (fun a b=>Op.bytesLess a b=true)
 mn:∀s,s∈x.Methods->nm s=true
theorem ifE_zero:∀{l:List TIface} {p:Option Tx},ifE p l=0->(∀b,p=some b->∀x,x∈l->Op.bytesLess b x.Name=true)/\l.Pairwise (fun a b=>Op.bytesLess a.Name b.Name=true)/\∀x,x∈l->RightI x
 |[],p,_=>⟨by simp,List.Pairwise.nil,by simp⟩
 |s::l,p,h=>by
  rw[ifE] at h
  split at h
  ·rename_i hc;exact absurd h hc
  ·rename_i hc
   obtain⟨h1,h2⟩:=nme_zero (s:=s.Name) (p:=p) (by simpa using hc)
   split at h
   ·simp at h
   ·rename_i h3
    split at h
    ·simp at h
    ·rename_i h4
     split at h
     ·rename_i h5;exact absurd h h5
     ·rename_i h5
      obtain⟨_,m2,m3⟩:=methE_zero (show methE none s.Methods=0 by simpa using h5)
      obtain⟨i1,i2,i3⟩:=ifE_zero h
      refine⟨fun b hb x hx=>?_,List.pairwise_cons.2 ⟨i1 s.Name rfl,i2⟩,fun x hx=>?_⟩
      ·rcases List.mem_cons.1 hx with rfl|hx
       ·exact h2 b hb
       ·exact bl_trans (h2 b hb) (i1 s.Name rfl x hx)
      ·rcases List.mem_cons.1 hx with rfl|hx
       ·exact⟨h1,h3,by omega,m2,m3⟩
       ·exact i3 x hx
structure RightT(fs:Tx->Bool)(x:TType):Prop where
 nam:nm x.Name=true
 len:x.Methods.length<=200
 srt:x.Methods.Pairwise (fun a b=>Op.bytesLess a.Name b.Name=true)
 mn:∀s,s∈x.Methods->nm s.Name=true/\fs s.Func=true
theorem tyE_zero{fs:Tx->Bool}:∀{l:List TType} {p:Option Tx},tyE fs false p l=0->(∀b,p=some b->∀x,x∈l->Op.bytesLess b x.Name=true)/\l.Pairwise (fun a b=>Op.bytesLess a.Name b.Name=true)/\∀x,x∈l->RightT fs x
 |[],p,_=>⟨by simp,List.Pairwise.nil,by simp⟩
 |s::l,p,h=>by
  rw[tyE] at h
  split at h
  ·rename_i hc;exact absurd h hc
  ·rename_i hc
   obtain⟨h1,h2⟩:=nme_zero (s:=s.Name) (p:=p) (by simpa using hc)
   split at h
   ·simp at h
   ·rename_i h4
    split at h
    ·rename_i h5;exact absurd h h5
    ·rename_i h5
     obtain⟨_,m2,m3⟩:=mtE_zero (show mtE fs false none s.Methods=0 by simpa using h5)
     obtain⟨i1,i2,i3⟩:=tyE_zero h
     refine⟨fun b hb x hx=>?_,List.pairwise_cons.2 ⟨i1 s.Name rfl,i2⟩,fun x hx=>?_⟩
     ·rcases List.mem_cons.1 hx with rfl|hx
      ·exact h2 b hb
      ·exact bl_trans (h2 b hb) (i1 s.Name rfl x hx)
     ·rcases List.mem_cons.1 hx with rfl|hx
      ·exact⟨h1,by omega,m2,m3⟩
      ·exact i3 x hx
structure RightC(fs:Tx->Bool)(is:Tx->Option (List Tx))(c:TCall):Prop where
 feat:c.Feature=[]\/nm c.Feature=true
 kind:(c.Kind=1/\fs c.Target=true/\c.Method=[])\/(c.Kind=2/\∃l,is c.Target=some l/\c.Method∈l)
theorem clE_zero{fs:Tx->Bool}{is:Tx->Option (List Tx)}{c:TCall}(h:clE fs is false c=0):RightC fs is c:=by
 unfold clE at h
 have tail:(if c.Feature≠[]/\nm c.Feature=false then (8:Int) else 0)=0->c.Feature=[]\/nm c.Feature=true:=by
  intro h
  split at h
  ·simp at h
  ·rename_i hc
   by_cases h1:c.Feature=[]
   ·exact .inl h1
   ·refine .inr ?_
    cases h2:nm c.Feature
    ·exact absurd ⟨h1,h2⟩ hc
    ·rfl
 split at h
 ·rename_i k1
  split at h
  ·simp at h
  ·rename_i h1
   split at h
   ·simp at h
   ·rename_i h2
    exact⟨tail h,.inl ⟨k1,by simpa using h1,by simpa using h2⟩⟩
 ·split at h
  ·rename_i k1 k2
   split at h
   ·simp at h
   ·rename_i h1
    refine⟨tail h,.inr ⟨k2,?_⟩⟩
    cases hi:is c.Target with
    |none=>rw[hi] at h1;simp at h1
    |some l=>rw[hi] at h1;exact⟨l,rfl,by simpa using h1⟩
  ·simp at h
theorem csE_zero{fs:Tx->Bool}{is:Tx->Option (List Tx)}:∀{l:List TCall},csE fs is false l=0->∀c,c∈l->RightC fs is c
 |[],_,c,hc=>by simp at hc
 |x::l,h,c,hc=>by
  rw[csE] at h
  split at h
  ·rename_i h1;exact absurd h h1
  ·rename_i h1
   rcases List.mem_cons.1 hc with rfl|hc
   ·exact clE_zero (by simpa using h1)
   ·exact csE_zero h c hc
structure RightF(fs ts:Tx->Bool)(is:Tx->Option (List Tx))(x:TFunc):Prop where
 nam:nm x.Name=true
 comp:nm x.Component=true
 len:x.Calls.length<=200
 calls:∀c,c∈x.Calls->RightC fs is c
 msrt:x.Makes.Pairwise (fun a b=>Op.bytesLess a b=true)
 makes:∀t,t∈x.Makes->ts t=true
theorem fnE_zero{fs ts:Tx->Bool}{is:Tx->Option (List Tx)}:∀{l:List TFunc} {p:Option Tx},fnE fs ts is false p l=0->(∀b,p=some b->∀x,x∈l->Op.bytesLess b x.Name=true)/\l.Pairwise (fun a b=>Op.bytesLess a.Name b.Name=true)/\∀x,x∈l->RightF fs ts is x
 |[],p,_=>⟨by simp,List.Pairwise.nil,by simp⟩
 |s::l,p,h=>by
  rw[fnE] at h
  split at h
  ·rename_i hc;exact absurd h hc
  ·rename_i hc
   obtain⟨h1,h2⟩:=nme_zero (s:=s.Name) (p:=p) (by simpa using hc)
   split at h
   ·simp at h
   ·rename_i h3
    split at h
    ·simp at h
    ·rename_i h4
     split at h
     ·rename_i h5;exact absurd h h5
     ·rename_i h5
      split at h
      ·rename_i h6;exact absurd h h6
      ·rename_i h6
       obtain⟨_,m2,m3⟩:=lsE_zero (show lsE ts false none s.Makes=0 by simpa using h6)
       obtain⟨i1,i2,i3⟩:=fnE_zero h
       refine⟨fun b hb x hx=>?_,List.pairwise_cons.2 ⟨i1 s.Name rfl,i2⟩,fun x hx=>?_⟩
       ·rcases List.mem_cons.1 hx with rfl|hx
        ·exact h2 b hb
        ·exact bl_trans (h2 b hb) (i1 s.Name rfl x hx)
       ·rcases List.mem_cons.1 hx with rfl|hx
        ·exact⟨h1,by simpa using h3,by omega,csE_zero (by simpa using h5),m2,m3⟩
        ·exact i3 x hx
structure RightG(g:TGraph):Prop where
 il:g.Ifaces.length<=200
 tl:g.Types.length<=500
 fl:g.Funcs.length<=3000
 isrt:g.Ifaces.Pairwise (fun a b=>Op.bytesLess a.Name b.Name=true)
 tsrt:g.Types.Pairwise (fun a b=>Op.bytesLess a.Name b.Name=true)
 fsrt:g.Funcs.Pairwise (fun a b=>Op.bytesLess a.Name b.Name=true)
 i:∀x,x∈g.Ifaces->RightI x
 t:∀x,x∈g.Types->RightT (fsOf g) x
 f:∀x,x∈g.Funcs->RightF (fsOf g) (tsOf g) (isOf g) x
 esrt:g.Entries.Pairwise (fun a b=>Op.bytesLess a b=true)
 e:∀s,s∈g.Entries->fsOf g s=true
theorem right_of{g:TGraph}(h:chk false g=0):RightG g:=by
 unfold chk at h
 split at h
 ·simp at h
 split at h
 ·simp at h
 split at h
 ·simp at h
 rename_i h1 h2 h3
 split at h
 ·rename_i h4;exact absurd h h4
 split at h
 ·rename_i h5;exact absurd h h5
 split at h
 ·rename_i h6;exact absurd h h6
 rename_i h4 h5 h6
 obtain⟨_,a2,a3⟩:=ifE_zero (show ifE none g.Ifaces=0 by simpa using h4)
 obtain⟨_,b2,b3⟩:=tyE_zero (show tyE (fsOf g) false none g.Types=0 by simpa using h5)
 obtain⟨_,c2,c3⟩:=fnE_zero (show fnE (fsOf g) (tsOf g) (isOf g) false none g.Funcs=0 by simpa using h6)
 obtain⟨_,d2,d3⟩:=lsE_zero h
 exact⟨by omega,by omega,by omega,a2,b2,c2,a3,b3,c3,d2,d3⟩
end Go.Proofs.YtjofofmllnpkpaaGreatDoor
