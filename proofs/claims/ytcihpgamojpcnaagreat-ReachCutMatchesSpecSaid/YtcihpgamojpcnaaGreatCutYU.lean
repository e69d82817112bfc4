/- Part of the proof: YC, YD, YW, YS, YU. -/
import Derived.Test.YtcihpgamojpcnaaGreatCutYB
set_option linter.unusedSimpArgs false
set_option linter.unusedVariables false
namespace Go.Proofs.YtcihpgamojpcnaaGreat
open Go Go.Pv
set_option maxRecDepth 100000
theorem j0e{α β:Type}[DecidableEq α](k:α)(a b:β):∀m:List (α×β),q0d (q0d m k a) k b=q0d m k b
 |[]=>by simp[q0d]
 |(q,v)::m=>by
  by_cases h:q=k
  ·simp[q0d,h]
  ·simp[q0d,h,j0e k a b m]
abbrev MM:=List (Tx×z0u)
theorem v1f(F:Nat)(x:q7d)(k:MM->Option q0e)(m:MM):∀(l:List Tx) (a:z0u),j1i F x k l (q0d m x.Name a)=k (q0d m x.Name (z6f a l))
 |[],a=>rfl
 |y::l,a=>by
  rw[j1i,q8g,if_pos rfl];simp only[Option.isSome_some,if_true,ck9];rw[j0e,v1f F x k m l];rfl
def rfm(m:MM):List q7d->MM
 |[]=>m
 |x::l=>rfm (q0d m x.Name (z6f [] x.Methods)) l
theorem v2f(F:Nat)(k:MM->Option q0e):∀(l:List q7d) (m:MM),j2i F k l m=k (rfm m l)
 |[],m=>rfl
 |x::l,m=>by
  rw[j2i];simp only[q9e];rw[v1f,v2f F k l];rfl
theorem v0f{F:Nat}(k:z0u->Option q0e):∀(l:List q6g) (m:z0u),j0i F k l m=k (z6f m (l.map (·.Name)))
 |[],m=>rfl
 |x::l,m=>by rw[j0i,v0f k l];rfl
theorem v9e{F:Nat}(k:z0u->Option q0e):∀(l:List q8e) (m:z0u),j9h F k l m=k (z6f m (l.map (·.Name)))
 |[],m=>rfl
 |x::l,m=>by rw[j9h,v9e k l];rfl
def nOf(g:q4c):q0e:=q0e.mk (rfm [] g.Ifaces) (z6f [] (g.Types.map (·.Name))) (z6f [] (g.Funcs.map (·.Name)))
theorem y0r(F:Nat)(g:q4c):M63 F g=some (nOf g):=by
 unfold M63;simp only[q9e,v2f,v0f,v9e];rfl
theorem v5z(t:Tx):∀(l:List q7d) (m:MM) (m':List (Tx×q7d)),q3b m t=(q3b m' t).map (fun x=>z6f [] x.Methods)->q3b (rfm m l) t=(q3b (ifm m' l) t).map (fun x=>z6f [] x.Methods)
 |[],m,m',h=>h
 |x::l,m,m',h=>by
  rw[rfm,ifm];refine v5z t l _ _ ?_;rw[q8g,q8g];split
  ·rfl
  ·exact h
theorem j0a(F:Nat){a:List Tx}{n:Nat}{x:Tx}(hn:n<a.length)(hx:a[n]=x)(ha:a.length<=maxLen):M86 F a n=some (if ((prv a n).elim false fun b=>le x b)=true then 10 else 0):=by
 unfold M86;by_cases h0:n=0
 ·subst h0;rw[z7o (by omega),z4d];rfl
 ·obtain⟨_,e1⟩:=j2s hn h0 ha;obtain⟨_,e2⟩:=v2o hn h0;rw[z0n (by omega),q9l hn,cl8,e1,cl8,e2,hx];simp only[cw8];have e3:(Op.bytesLess x a[n - 1]||x==a[n - 1])=le x a[n - 1]:=rfl;rw[e3];by_cases hc:le x a[n - 1]=true<;>simp[hc]
theorem w9a{x:Tx}{p:Option Tx}:(if nm x=false then (8:Int) else if (p.elim false fun b=>le x b)=true then 10 else 0)=nme x p:=by
 unfold nme;cases nm x<;>cases p<;>rfl
theorem v1d(F:Nat)(x:q7d)(ha:x.Methods.length<=maxLen)(hm:∀s,s∈x.Methods->s.length<=maxLen)(k:Option Int):∀(l:List Tx) (n:Nat),x.Methods.drop n=l->z9v F x k l n=if q2x (prv x.Methods n) l≠0 then some (q2x (prv x.Methods n) l) else k
 |[],n,_=>by simp[z9v,q2x]
 |s::l,n,hd=>by
  obtain⟨hn,hx,hl⟩:=z2e hd;have hs:s∈x.Methods:=by rw[<-hx];exact bh8 _
  have ih:=v1d F x ha hm k l (n+1) hl;rw[z7n hn hx,show((n+1:Nat):Int)=(n:Int)+1 from rfl] at ih;rw[z9v,z4v F s (hm s hs),cl8,j0a F hn hx ha,cl8,ih,q2x,<-w9a];cases nm s<;>by_cases hc:((prv x.Methods n).elim false fun b=>le s b)=true<;>simp[hc]
def bz(s:Tx)(p:Option Tx):Prop:=match p with|none=>s=[]|some b=>s=b
theorem v0p{x s:Tx}{p:Option Tx}(h:bz s p):(if nm x=false then (8:Int) else if le x s=true then 10 else 0)=nme x p:=by
 unfold nme;cases p with
 |none=>
  have h:s=[]:=h;subst h;cases hn:nm x
  ·rfl
  ·rw[y4n hn];rfl
 |some b=>
  have h:s=b:=h;subst h;cases nm x<;>rfl
theorem v2d(F:Nat)(k:Option Int):∀(l:List q7d) (s:Tx) (p:Option Tx),(∀x,x∈l->z9n x)->bz s p->z9q F k l s=if ifE p l≠0 then some (ifE p l) else k
 |[],s,p,_,_=>by simp[z9q,ifE]
 |x::l,s,p,hx,hp=>by
  obtain⟨o1,⟨o2,o3⟩,_⟩:=hx x (by simp);have ih:=v2d F k l x.Name (some x.Name) (fun y hy=>hx y (cl9 _ hy)) rfl;have e:=v1d F x o3 o2 (z9q F k l x.Name) x.Methods 0 rfl;rw[show((0:Nat):Int)=0 from rfl,z4d] at e;rw[z9q];simp only[q9e];rw[z4v F x.Name o1,cl8,ifE,e,ih,<-v0p hp];have e3:(Op.bytesLess x.Name s||x.Name==s)=le x.Name s:=rfl;rw[e3];cases nm x.Name
  ·simp
  ·by_cases hc:le x.Name s=true
   ·simp[hc]
   ·by_cases h1:x.Methods=[]
    ·simp[hc,h1]
    ·by_cases h2:200<x.Methods.length
     ·rw[if_neg (by simp),if_neg hc,if_neg (by simpa using h1),z0n (by omega)];simp[hc,h1,h2]
     ·rw[if_neg (by simp),if_neg hc,if_neg (by simpa using h1),z7o (by omega)];simp[hc,h1,h2];by_cases h3:q2x none x.Methods=0<;>simp[h3]
theorem v9c(F:Nat)(a:q1c)(fs:Tx->Bool)(hf:∀x,(q3b a.n.funcs x).getD false=fs x)(k:Option Int):∀(l:List q3j) (s:Tx) (p:Option Tx),(∀x,x∈l->x.Name.length<=maxLen)->bz s p->z7v F a k l s=if mtE fs a.loose p l≠0 then some (mtE fs a.loose p l) else k
 |[],s,p,_,_=>by simp[z7v,mtE]
 |x::l,s,p,hx,hp=>by
  have ih:=v9c F a fs hf k l x.Name (some x.Name) (fun y hy=>hx y (cl9 _ hy)) rfl;rw[z7v];simp only[q9e];rw[z4v F x.Name (hx x (by simp)),cl8,mtE,ih,hf,<-v0p hp];have e3:(Op.bytesLess x.Name s||x.Name==s)=le x.Name s:=rfl;rw[e3];cases nm x.Name
  ·simp
  ·by_cases hc:le x.Name s=true
   ·simp[hc]
   ·cases a.loose<;>cases fs x.Func<;>simp[hc]
theorem v0d(F:Nat)(a:q1c)(fs:Tx->Bool)(hf:∀x,(q3b a.n.funcs x).getD false=fs x)(k:Option Int):∀(l:List q6g) (s:Tx) (p:Option Tx),(∀x,x∈l->j5d x)->bz s p->z8v F a k l s=if tyE fs a.loose p l≠0 then some (tyE fs a.loose p l) else k
 |[],s,p,_,_=>by simp[z8v,tyE]
 |x::l,s,p,hx,hp=>by
  obtain⟨o1,⟨o2,o3⟩,_⟩:=hx x (by simp);have ih:=v0d F a fs hf k l x.Name (some x.Name) (fun y hy=>hx y (cl9 _ hy)) rfl;rw[z8v];simp only[q9e];rw[z4v F x.Name o1,cl8,tyE,v9c F a fs hf _ _ [] none (fun y hy=>(o2 y hy).1) rfl,ih,<-v0p hp];have e3:(Op.bytesLess x.Name s||x.Name==s)=le x.Name s:=rfl;rw[e3];cases nm x.Name
  ·simp
  ·by_cases hc:le x.Name s=true
   ·simp[hc]
   ·by_cases h2:200<x.Methods.length
    ·rw[if_neg (by simp),if_neg hc,z0n (by omega)];simp[hc,h2]
    ·rw[if_neg (by simp),if_neg hc,z7o (by omega)];simp[hc,h2];by_cases h3:mtE fs a.loose none x.Methods=0<;>simp[h3]
theorem y3d(F:Nat)(a:q1c)(fs:Tx->Bool)(is:Tx->Option (List Tx))(hf:∀x,(q3b a.n.funcs x).getD false=fs x)(hi:∀x,q3b a.n.ifaces x=(is x).map (z6f []))(c:q4e)(hc:c.Feature.length<=maxLen):y0s F a c=some (clE fs is a.loose c):=by
 unfold y0s clE;rw[q9e,z4v F _ hc,hi,hf];simp only[cl8]
 have tail:(if (!(c.Feature==([]:Tx)))=true then if (!nm c.Feature)=true then some (8:Int) else some 0 else some 0)=some (if c.Feature≠[]/\nm c.Feature=false then 8 else 0):=by
  by_cases h1:c.Feature=[]<;>cases h2:nm c.Feature<;>simp[h1]
 rw[tail];by_cases k1:c.Kind=1
 ·rw[if_pos (by simp[k1]),if_pos k1];by_cases k3:c.Method=[]<;>cases a.loose<;>cases fs c.Target<;>simp[k3]
 ·rw[if_neg (by simpa using k1),if_neg k1];by_cases k2:c.Kind=2
  ·rw[if_pos (by simp[k2]),if_pos k2];cases hm:is c.Target with
   |none=>cases a.loose<;>simp
   |some l=>
    have e:(q3b (z6f [] l) c.Method).getD false=l.contains c.Method:=z0m _ _;simp only[bg9,Option.isSome_some,if_true,ck9,e,cw8];cases a.loose<;>by_cases hcc:l.contains c.Method=true<;>simp only[hcc]<;>simp
  ·rw[if_neg (by simpa using k2),if_neg k2]
theorem v7c(F:Nat)(a:q1c)(fs:Tx->Bool)(is:Tx->Option (List Tx))(hf:∀x,(q3b a.n.funcs x).getD false=fs x)(hi:∀x,q3b a.n.ifaces x=(is x).map (z6f []))(k:Option Int):∀(l:List q4e),(∀c,c∈l->c.Feature.length<=maxLen)->z6v F a k l=if csE fs is a.loose l≠0 then some (csE fs is a.loose l) else k
 |[],_=>by simp[z6v,csE]
 |c::l,h=>by
  rw[z6v,y3d F a fs is hf hi c (h c (by simp)),cl8,csE,v7c F a fs is hf hi k l (fun c hc=>h c (cl9 _ hc))];by_cases h1:clE fs is a.loose c=0<;>simp[h1]
theorem v6c(F:Nat)(a:q1c)(x:q8e)(ha:x.Makes.length<=maxLen)(k:Option Int):∀(l:List Tx) (n:Nat),x.Makes.drop n=l->z5v F a x k l n=if lsE (has a.n.types) a.loose (prv x.Makes n) l≠0 then some (lsE (has a.n.types) a.loose (prv x.Makes n) l) else k
 |[],n,_=>by simp[z5v,lsE]
 |s::l,n,hd=>by
  obtain⟨hn,hx,hl⟩:=z2e hd;have ih:=v6c F a x ha k l (n+1) hl;rw[z7n hn hx,show((n+1:Nat):Int)=(n:Int)+1 from rfl] at ih;rw[z5v];simp only[q9e];have e:(q3b a.n.types s).getD false=has a.n.types s:=rfl;rw[j0a F hn hx ha,cl8,ih,lsE,e];cases a.loose<;>cases has a.n.types s<;>by_cases hc:((prv x.Makes n).elim false fun b=>le s b)=true<;>simp[hc]
theorem v8e(F:Nat)(a:q1c)(ha:a.g.Entries.length<=maxLen)(k:Option Int):∀(l:List Tx) (n:Nat),a.g.Entries.drop n=l->z3x F a k l n=if lsE (has a.n.funcs) a.loose (prv a.g.Entries n) l≠0 then some (lsE (has a.n.funcs) a.loose (prv a.g.Entries n) l) else k
 |[],n,_=>by simp[z3x,lsE]
 |s::l,n,hd=>by
  obtain⟨hn,hx,hl⟩:=z2e hd;have ih:=v8e F a ha k l (n+1) hl;rw[z7n hn hx,show((n+1:Nat):Int)=(n:Int)+1 from rfl] at ih;rw[z3x];simp only[q9e];have e:(q3b a.n.funcs s).getD false=has a.n.funcs s:=rfl;rw[j0a F hn hx ha,cl8,ih,lsE,e];cases a.loose<;>cases has a.n.funcs s<;>by_cases hc:((prv a.g.Entries n).elim false fun b=>le s b)=true<;>simp[hc]
theorem v8c(F:Nat)(a:q1c)(fs ts:Tx->Bool)(is:Tx->Option (List Tx))(hf:∀x,(q3b a.n.funcs x).getD false=fs x)(hi:∀x,q3b a.n.ifaces x=(is x).map (z6f []))(ht:has a.n.types=ts)(k:Option Int):
  ∀(l:List q8e) (s:Tx) (p:Option Tx),(∀x,x∈l->j7d x)->bz s p->z8q F a k l s=if fnE fs ts is a.loose p l≠0 then some (fnE fs ts is a.loose p l) else k
 |[],s,p,_,_=>by simp[z8q,fnE]
 |x::l,s,p,hx,hp=>by
  obtain⟨o1,o2,⟨o3,_⟩,⟨_,o4⟩,_⟩:=hx x (by simp);have ih:=v8c F a fs ts is hf hi ht k l x.Name (some x.Name) (fun y hy=>hx y (cl9 _ hy)) rfl;have e:=v6c F a x o4 (z8q F a k l x.Name) x.Makes 0 rfl;rw[show((0:Nat):Int)=0 from rfl,z4d] at e;rw[z8q];simp only[q9e];rw[z4v F x.Name o1,cl8,z4v F x.Component o2,cl8,fnE,v7c F a fs is hf hi _ _ (fun c hc=>(o3 c hc).2.2.2.1),e,ht,ih,<-v0p hp];have e3:(Op.bytesLess x.Name s||x.Name==s)=le x.Name s:=rfl;rw[e3];cases nm x.Name
  ·simp
  ·by_cases hc:le x.Name s=true
   ·simp[hc]
   ·cases hcm:nm x.Component
    ·simp[hc,hcm]
    ·by_cases h2:200<x.Calls.length
     ·rw[if_neg (by simp),if_neg hc,if_neg (by simp),z0n (by omega)];simp[hc,h2,hcm]
     ·rw[if_neg (by simp),if_neg hc,if_neg (by simp),z7o (by omega)];simp[hc,h2,hcm];by_cases h3:csE fs is a.loose x.Calls=0
      ·by_cases h4:lsE ts a.loose none x.Makes=0<;>simp[h3,h4]
      ·simp[h3]
theorem y9q(F:Nat)(g:q4c)(lo:Bool)(h:q3o g):M64 F (q1c.mk g (nOf g) lo)=some (chk lo g):=by
 obtain⟨⟨o1,_⟩,⟨o2,_⟩,⟨o3,_⟩,⟨_,o4⟩,_⟩:=h;have hf:∀x,(q3b (q1c.mk g (nOf g) lo).n.funcs x).getD false=z8r g x:=fun x=>z0m x _;have ht:has (q1c.mk g (nOf g) lo).n.types=v7i g:=funext fun x=>z0m x _
 have hi:∀x,q3b (q1c.mk g (nOf g) lo).n.ifaces x=(v5w g x).map (z6f []):=fun x=>by
  show q3b (rfm [] g.Ifaces) x=_
  rw[v5z x g.Ifaces [] [] rfl];unfold v5w;rw[Option.map_map];rfl
 have hf':has (nOf g).funcs=z8r g:=funext fun x=>z0m x _;unfold M64 chk M83 M84 M85;simp only[q9e];have e:=v8e F (q1c.mk g (nOf g) lo) o4 (some 0) g.Entries 0 rfl;rw[show((0:Nat):Int)=0 from rfl,z4d] at e;rw[v2d F _ _ [] none o1 rfl,v0d F _ _ hf _ _ [] none o2 rfl,v8c F _ _ _ _ hf hi ht _ _ [] none o3 rfl,orz,orz,orz];simp only at e;rw[e,hf',orz];simp only[cl8];by_cases h1:200<g.Ifaces.length
 ·rw[z0n (by omega),if_pos h1]
 rw[z7o (by omega),if_neg h1];by_cases h2:500<g.Types.length
 ·rw[z0n (by omega),if_pos h2]
 rw[z7o (by omega),if_neg h2];by_cases h3:3000<g.Funcs.length
 ·rw[z0n (by omega),if_pos h3]
 rw[z7o (by omega),if_neg h3];refine y2e ne0 (fun _=>rfl) (fun _=>y2e ne0 (fun _=>rfl) (fun _=>y2e ne0 (fun _=>rfl) (fun _=>rfl)))
theorem y7r(F:Nat)(g:q4c)(h:q3o g):M30 F g=some (chk false g):=by
 unfold M30;rw[y0r,cl8,y9q F g false h];rfl
theorem v7e(F:Nat)(k:Option Int):∀(l:List Tx) (n:Int) (s:Tx) (p:Option Tx),(∀x,x∈l->x.length<=maxLen)->0<=n->pz n p s->z2x F k l n s=if q2x p l≠0 then some (q2x p l) else k
 |[],n,s,p,_,_,_=>by simp[z2x,q2x]
 |x::l,n,s,p,hx,hn,hp=>by
  have ih:=v7e F k l (n+1) x (some x) (fun y hy=>hx y (cl9 _ hy)) (by omega) ⟨by omega,rfl⟩;rw[z2x,j3q F x s _ (hx x (by simp)),cl8,j0p hp,q2x,ih];by_cases h:nme x p=0<;>simp[h]
def feE(l:List Tx):Int:=if 30<l.length then 3 else q2x none l
theorem y7q(F:Nat)(l:List Tx)(h:∀x,x∈l->x.length<=maxLen):M66 F l=some (feE l):=by
 unfold M66 feE;rw[q9e,v7e F _ l 0 [] none h (by omega) rfl,orz];by_cases h1:30<l.length
 ·rw[z0n (by omega),if_pos h1]
 ·rw[z7o (by omega),if_neg h1]
theorem v6e(F:Nat)(a:List Tx)(ha:a.length<=maxLen)(hm:∀s,s∈a->s.length<=maxLen)(k:Option Int):∀(l:List Tx) (n:Nat),a.drop n=l->z1x F a k l n=if q2x (prv a n) l≠0 then some (q2x (prv a n) l) else k
 |[],n,_=>by simp[z1x,q2x]
 |s::l,n,hd=>by
  obtain⟨hn,hx,hl⟩:=z2e hd;have hs:s∈a:=by rw[<-hx];exact bh8 _
  have ih:=v6e F a ha hm k l (n+1) hl;rw[z7n hn hx,show((n+1:Nat):Int)=(n:Int)+1 from rfl] at ih;rw[z1x,z4v F s (hm s hs),cl8,j0a F hn hx ha,cl8,ih,q2x,<-w9a];cases nm s<;>by_cases hc:((prv a n).elim false fun b=>le s b)=true<;>simp[hc]
theorem y6q(F:Nat)(l:List Tx)(h:∀x,x∈l->x.length<=maxLen)(hl:l.length<=maxLen):M67 F l=some (feE l):=by
 unfold M67 feE;have e:=v6e F l hl h (some 0) l 0 rfl;rw[show((0:Nat):Int)=0 from rfl,z4d] at e;rw[q9e,e,orz];by_cases h1:30<l.length
 ·rw[z0n (by omega),if_pos h1]
 ·rw[z7o (by omega),if_neg h1]
theorem j1p:∀{l:List Tx} {p:Option Tx},q2x p l=0->(∀b,p=some b->∀x,x∈l->Op.bytesLess b x=true)/\l.Pairwise (fun a b=>Op.bytesLess a b=true)/\∀x,x∈l->nm x=true
 |[],p,_=>⟨by simp,List.Pairwise.nil,by simp⟩
 |s::l,p,h=>by
  rw[q2x] at h;split at h
  ·rename_i hc;exact absurd h hc
  ·rename_i hc;obtain⟨h1,h2⟩:=z1o (s:=s) (p:=p) (by simpa using hc);obtain⟨i1,i2,i3⟩:=j1p h;refine⟨fun b hb x hx=>?_,cf9.2 ⟨i1 s rfl,i2⟩,fun x hx=>?_⟩
   ·rcases ax8.1 hx with rfl|hx
    ·exact h2 b hb
    ·exact q0q (h2 b hb) (i1 s rfl x hx)
   ·rcases ax8.1 hx with rfl|hx
    ·exact h1
    ·exact i3 x hx
theorem j8s{there:Tx->Bool}:∀{l:List Tx} {p:Option Tx},lsE there false p l=0->(∀b,p=some b->∀x,x∈l->Op.bytesLess b x=true)/\l.Pairwise (fun a b=>Op.bytesLess a b=true)/\∀x,x∈l->there x=true
 |[],p,_=>⟨by simp,List.Pairwise.nil,by simp⟩
 |s::l,p,h=>by
  rw[lsE] at h;split at h
  ·simp at h
  ·rename_i h1;split at h
   ·simp at h
   ·rename_i h2;obtain⟨i1,i2,i3⟩:=j8s h
    have hb0:∀b,p=some b->Op.bytesLess b s=true:=fun b hb=>by
     subst hb;simp only[cw8] at h2;exact w5s.1 (by simpa using h2)
    refine⟨fun b hb x hx=>?_,cf9.2 ⟨i1 s rfl,i2⟩,fun x hx=>?_⟩
    ·rcases ax8.1 hx with rfl|hx
     ·exact hb0 b hb
     ·exact q0q (hb0 b hb) (i1 s rfl x hx)
    ·rcases ax8.1 hx with rfl|hx
     ·simpa using h1
     ·exact i3 x hx
theorem v2p{fs:Tx->Bool}:∀{l:List q3j} {p:Option Tx},mtE fs false p l=0->(∀b,p=some b->∀x,x∈l->Op.bytesLess b x.Name=true)/\l.Pairwise (fun a b=>Op.bytesLess a.Name b.Name=true)/\∀x,x∈l->nm x.Name=true/\fs x.Func=true
 |[],p,_=>⟨by simp,List.Pairwise.nil,by simp⟩
 |s::l,p,h=>by
  rw[mtE] at h;split at h
  ·rename_i hc;exact absurd h hc
  ·rename_i hc;obtain⟨h1,h2⟩:=z1o (s:=s.Name) (p:=p) (by simpa using hc);split at h
   ·simp at h
   ·rename_i h3;obtain⟨i1,i2,i3⟩:=v2p h;refine⟨fun b hb x hx=>?_,cf9.2 ⟨i1 s.Name rfl,i2⟩,fun x hx=>?_⟩
    ·rcases ax8.1 hx with rfl|hx
     ·exact h2 b hb
     ·exact q0q (h2 b hb) (i1 s.Name rfl x hx)
    ·rcases ax8.1 hx with rfl|hx
     ·exact⟨h1,by simpa using h3⟩
     ·exact i3 x hx
structure w5t(x:q7d):Prop where
 nam:nm x.Name=true
 ne:x.Methods≠[]
 len:x.Methods.length<=200
 srt:x.Methods.Pairwise (fun a b=>Op.bytesLess a b=true)
 mn:∀s,s∈x.Methods->nm s=true
theorem v6p:∀{l:List q7d} {p:Option Tx},ifE p l=0->(∀b,p=some b->∀x,x∈l->Op.bytesLess b x.Name=true)/\l.Pairwise (fun a b=>Op.bytesLess a.Name b.Name=true)/\∀x,x∈l->w5t x
 |[],p,_=>⟨by simp,List.Pairwise.nil,by simp⟩
 |s::l,p,h=>by
  rw[ifE] at h;split at h
  ·rename_i hc;exact absurd h hc
  ·rename_i hc;obtain⟨h1,h2⟩:=z1o (s:=s.Name) (p:=p) (by simpa using hc);split at h
   ·simp at h
   ·rename_i h3;split at h
    ·simp at h
    ·rename_i h4;split at h
     ·rename_i h5;exact absurd h h5
     ·rename_i h5;obtain⟨_,m2,m3⟩:=j1p (show q2x none s.Methods=0 by simpa using h5);obtain⟨i1,i2,i3⟩:=v6p h;refine⟨fun b hb x hx=>?_,cf9.2 ⟨i1 s.Name rfl,i2⟩,fun x hx=>?_⟩
      ·rcases ax8.1 hx with rfl|hx
       ·exact h2 b hb
       ·exact q0q (h2 b hb) (i1 s.Name rfl x hx)
      ·rcases ax8.1 hx with rfl|hx
       ·exact⟨h1,h3,by omega,m2,m3⟩
       ·exact i3 x hx
structure w4t(fs:Tx->Bool)(x:q6g):Prop where
 nam:nm x.Name=true
 len:x.Methods.length<=200
 srt:x.Methods.Pairwise (fun a b=>Op.bytesLess a.Name b.Name=true)
 mn:∀s,s∈x.Methods->nm s.Name=true/\fs s.Func=true
theorem v3n{fs:Tx->Bool}:∀{l:List q6g} {p:Option Tx},tyE fs false p l=0->(∀b,p=some b->∀x,x∈l->Op.bytesLess b x.Name=true)/\l.Pairwise (fun a b=>Op.bytesLess a.Name b.Name=true)/\∀x,x∈l->w4t fs x
 |[],p,_=>⟨by simp,List.Pairwise.nil,by simp⟩
 |s::l,p,h=>by
  rw[tyE] at h;split at h
  ·rename_i hc;exact absurd h hc
  ·rename_i hc;obtain⟨h1,h2⟩:=z1o (s:=s.Name) (p:=p) (by simpa using hc);split at h
   ·simp at h
   ·rename_i h4;split at h
    ·rename_i h5;exact absurd h h5
    ·rename_i h5;obtain⟨_,m2,m3⟩:=v2p (show mtE fs false none s.Methods=0 by simpa using h5);obtain⟨i1,i2,i3⟩:=v3n h;refine⟨fun b hb x hx=>?_,cf9.2 ⟨i1 s.Name rfl,i2⟩,fun x hx=>?_⟩
     ·rcases ax8.1 hx with rfl|hx
      ·exact h2 b hb
      ·exact q0q (h2 b hb) (i1 s.Name rfl x hx)
     ·rcases ax8.1 hx with rfl|hx
      ·exact⟨h1,by omega,m2,m3⟩
      ·exact i3 x hx
structure w0h(fs:Tx->Bool)(is:Tx->Option (List Tx))(c:q4e):Prop where
 feat:c.Feature=[]\/nm c.Feature=true
 kind:(c.Kind=1/\fs c.Target=true/\c.Method=[])\/(c.Kind=2/\∃l,is c.Target=some l/\c.Method∈l)
theorem w1o{fs:Tx->Bool}{is:Tx->Option (List Tx)}{c:q4e}(h:clE fs is false c=0):w0h fs is c:=by
 unfold clE at h
 have tail:(if c.Feature≠[]/\nm c.Feature=false then (8:Int) else 0)=0->c.Feature=[]\/nm c.Feature=true:=by
  intro h;split at h
  ·simp at h
  ·rename_i hc;by_cases h1:c.Feature=[]
   ·exact .inl h1
   ·refine .inr ?_;cases h2:nm c.Feature
    ·exact absurd ⟨h1,h2⟩ hc
    ·rfl
 split at h
 ·rename_i k1;split at h
  ·simp at h
  ·rename_i h1;split at h
   ·simp at h
   ·rename_i h2;exact⟨tail h,.inl ⟨k1,by simpa using h1,by simpa using h2⟩⟩
 ·split at h
  ·rename_i k1 k2;split at h
   ·simp at h
   ·rename_i h1;refine⟨tail h,.inr ⟨k2,?_⟩⟩;cases hi:is c.Target with
    |none=>rw[hi] at h1;simp at h1
    |some l=>rw[hi] at h1;exact⟨l,rfl,by simpa using h1⟩
  ·simp at h
theorem v7q{fs:Tx->Bool}{is:Tx->Option (List Tx)}:∀{l:List q4e},csE fs is false l=0->∀c,c∈l->w0h fs is c
 |[],_,c,hc=>by simp at hc
 |x::l,h,c,hc=>by
  rw[csE] at h;split at h
  ·rename_i h1;exact absurd h h1
  ·rename_i h1;rcases ax8.1 hc with rfl|hc
   ·exact w1o (by simpa using h1)
   ·exact v7q h c hc
structure w6t(fs ts:Tx->Bool)(is:Tx->Option (List Tx))(x:q8e):Prop where
 nam:nm x.Name=true
 comp:nm x.Component=true
 len:x.Calls.length<=200
 calls:∀c,c∈x.Calls->w0h fs is c
 msrt:x.Makes.Pairwise (fun a b=>Op.bytesLess a b=true)
 makes:∀t,t∈x.Makes->ts t=true
theorem v3q{fs ts:Tx->Bool}{is:Tx->Option (List Tx)}:∀{l:List q8e} {p:Option Tx},fnE fs ts is false p l=0->(∀b,p=some b->∀x,x∈l->Op.bytesLess b x.Name=true)/\l.Pairwise (fun a b=>Op.bytesLess a.Name b.Name=true)/\∀x,x∈l->w6t fs ts is x
 |[],p,_=>⟨by simp,List.Pairwise.nil,by simp⟩
 |s::l,p,h=>by
  rw[fnE] at h;split at h
  ·rename_i hc;exact absurd h hc
  ·rename_i hc;obtain⟨h1,h2⟩:=z1o (s:=s.Name) (p:=p) (by simpa using hc);split at h
   ·simp at h
   ·rename_i h3;split at h
    ·simp at h
    ·rename_i h4;split at h
     ·rename_i h5;exact absurd h h5
     ·rename_i h5;split at h
      ·rename_i h6;exact absurd h h6
      ·rename_i h6;obtain⟨_,m2,m3⟩:=j8s (show lsE ts false none s.Makes=0 by simpa using h6);obtain⟨i1,i2,i3⟩:=v3q h;refine⟨fun b hb x hx=>?_,cf9.2 ⟨i1 s.Name rfl,i2⟩,fun x hx=>?_⟩
       ·rcases ax8.1 hx with rfl|hx
        ·exact h2 b hb
        ·exact q0q (h2 b hb) (i1 s.Name rfl x hx)
       ·rcases ax8.1 hx with rfl|hx
        ·exact⟨h1,by simpa using h3,by omega,v7q (by simpa using h5),m2,m3⟩
        ·exact i3 x hx
structure q5i(g:q4c):Prop where
 il:g.Ifaces.length<=200
 tl:g.Types.length<=500
 fl:g.Funcs.length<=3000
 isrt:g.Ifaces.Pairwise (fun a b=>Op.bytesLess a.Name b.Name=true)
 tsrt:g.Types.Pairwise (fun a b=>Op.bytesLess a.Name b.Name=true)
 fsrt:g.Funcs.Pairwise (fun a b=>Op.bytesLess a.Name b.Name=true)
 i:∀x,x∈g.Ifaces->w5t x
 t:∀x,x∈g.Types->w4t (z8r g) x
 f:∀x,x∈g.Funcs->w6t (z8r g) (v7i g) (v5w g) x
 esrt:g.Entries.Pairwise (fun a b=>Op.bytesLess a b=true)
 e:∀s,s∈g.Entries->z8r g s=true
theorem j1a{g:q4c}(h:chk false g=0):q5i g:=by
 unfold chk at h;split at h
 ·simp at h
 split at h
 ·simp at h
 split at h
 ·simp at h
 rename_i h1 h2 h3;split at h
 ·rename_i h4;exact absurd h h4
 split at h
 ·rename_i h5;exact absurd h h5
 split at h
 ·rename_i h6;exact absurd h h6
 rename_i h4 h5 h6;obtain⟨_,a2,a3⟩:=v6p (show ifE none g.Ifaces=0 by simpa using h4);obtain⟨_,b2,b3⟩:=v3n (show tyE (z8r g) false none g.Types=0 by simpa using h5);obtain⟨_,c2,c3⟩:=v3q (show fnE (z8r g) (v7i g) (v5w g) false none g.Funcs=0 by simpa using h6);obtain⟨_,d2,d3⟩:=j8s h;exact⟨by omega,by omega,by omega,a2,b2,c2,a3,b3,c3,d2,d3⟩
theorem v7f(F:Nat)(a b:Tx):M56 F a b=some (if Op.bytesLess a b=true then -1 else if a=b then 0 else 1):=by
 unfold M56 M79;simp only[beq_self_eq_true,ci9,cl8,cy8,if_false];by_cases h:Op.bytesLess a b=true
 ·simp[h]
 ·by_cases h2:a=b
  ·subst h2;simp[q5s]
  ·simp[h,h2]
def mlt(x:Tx)(m:q3j):Bool:=Op.bytesLess m.Name x
theorem v8l(F:Nat)(a:List q3j)(x:Tx)(k:Int->Option (Int×Bool))(hlen:a.length<=100000)(hs:a.Pairwise (fun p q=>Op.bytesLess p.Name q.Name=true)):
  ∀(n i j:Nat),i<=j->j<=a.length->j - i<n->(∀q (h:q<a.length),q<i->mlt x a[q]=true)->(∀q (h:q<a.length),j<=q->mlt x a[q]=false)->
  ∃p:Nat,p<=a.length/\z2l F a x k n i j=k p/\(∀q (h:q<a.length),q<p->mlt x a[q]=true)/\∀q (h:q<a.length),p<=q->mlt x a[q]=false
 |0,i,j,_,_,h,_,_=>by omega
 |n+1,i,j,hij,hj,hn,h1,h2=>by
  rw[z2l];by_cases hc:i<j
  ·have hm:(i+j) / 2<a.length:=by omega
   rw[z0n (by omega),y7a (by omega),q9l hm,cl8];unfold M96;rw[v7f,cl8,cl8];simp only[q9e];by_cases hl:Op.bytesLess (a[(i+j) / 2]).Name x=true
   ·rw[if_pos hl,z0n (by omega),show w64 ((((i+j) / 2:Nat):Int)+1)=(((i+j) / 2+1:Nat):Int) by rw[q9r (by omega) (by omega)];rfl];refine v8l F a x k hlen hs n ((i+j) / 2+1) j (by omega) hj (by omega) (fun q h hq=>?_) h2;rcases cb8 q ((i+j) / 2) with hq2|hq2
    ·have:=bb8.1 hs q ((i+j) / 2) h hm hq2;exact q0q this hl
    ·have:q=(i+j) / 2:=by omega
     subst this;exact hl
   ·rw[if_neg hl]
    have e:(if decide ((if a[(i+j) / 2].Name=x then (0:Int) else 1)<0)=true then z2l F a x k n (w64 ((((i+j) / 2:Nat):Int)+1)) j else z2l F a x k n i (((i+j) / 2:Nat):Int))=z2l F a x k n i (((i+j) / 2:Nat):Int):=by
     have hh:¬((if a[(i+j) / 2].Name=x then (0:Int) else 1)<0):=by split<;>omega
     rw[z7o hh]
    rw[e];refine v8l F a x k hlen hs n i ((i+j) / 2) (by omega) (by omega) (by omega) h1 (fun q h hq=>?_);have hl:Op.bytesLess (a[(i+j) / 2]).Name x=false:=by simpa using hl
    rcases cb8 ((i+j) / 2) q with hq2|hq2
    ·have:=bb8.1 hs ((i+j) / 2) q hm h hq2;unfold mlt;cases hh:Op.bytesLess (a[q]).Name x
     ·rfl
     ·rw[q0q this hh] at hl;simp at hl
    ·have:q=(i+j) / 2:=by omega
     subst this;exact hl
  ·have:i=j:=by omega
   subst this;rw[z7o (by omega)];exact⟨i,hj,rfl,h1,h2⟩
def mOf(t:q6g)(m:Tx):Tx×Bool:=match t.Methods.find? (fun y=>y.Name==m) with|some y=>(y.Func,true)|none=>([],false)
theorem w2h(F:Nat)(t:q6g)(x:Tx)(hlen:t.Methods.length<=200)(hs:t.Methods.Pairwise (fun p q=>Op.bytesLess p.Name q.Name=true))(hF:1000<=F):M72 F t x=some (mOf t x):=by
 unfold M72 M95 mOf;simp only[q9e];obtain⟨p,p1,p2,p3,p4⟩:=v8l F t.Methods x (fun n4=>if decide (n4<((t.Methods.length:Nat):Int))=true then (idx t.Methods n4).bind fun x19=>(M96 F x19 x).bind fun y21=>some (n4,y21==0) else some (n4,false)) (by omega) hs F 0 t.Methods.length (by omega) (ae8 _) (by omega) (fun q h hq=>by omega) (fun q h hq=>by omega);rw[show((0:Nat):Int)=0 from rfl] at p2;rw[p2];by_cases hp:p<t.Methods.length
 ·rw[z0n (by omega),q9l hp,cl8];unfold M96;rw[v7f,cl8,cl8,cl8];have hlt:Op.bytesLess (t.Methods[p]).Name x=false:=p4 p hp (ae8 _);have ec:(if Op.bytesLess (t.Methods[p]).Name x=true then (-1:Int) else if (t.Methods[p]).Name=x then 0 else 1)=if (t.Methods[p]).Name=x then 0 else 1:=by rw[if_neg (by simp[hlt])]
  rw[ec];by_cases he:(t.Methods[p]).Name=x
  ·rw[if_pos he]
   have hf:t.Methods.find? (fun y=>y.Name==x)=some t.Methods[p]:=by
    rw[List.find?_eq_some_iff_getElem];refine⟨by simp[he],p,hp,rfl,fun j hj=>?_⟩;have:=p3 j (by omega) hj;unfold mlt at this
    simpa using z0h this
   rw[hf];simp[q9l hp]
  ·rw[if_neg he]
   have hf:t.Methods.find? (fun y=>y.Name==x)=none:=by
    rw[af9];intro y hy;obtain⟨q,hq,rfl⟩:=br8 hy;rcases ar8 q p with h|h|h
    ·have:=p3 q hq h;unfold mlt at this
     simpa using z0h this
    ·subst h;simpa using he
    ·have h2:=bb8.1 hs p q hp hq h
     have h3:Op.bytesLess x (t.Methods[p]).Name=true:=by
      rcases z8k (t.Methods[p]).Name x with g|g|g
      ·rw[g] at hlt;simp at hlt
      ·exact absurd g he
      ·exact g
     have:=z0h (q0q h3 h2)
     simpa using fun e=>this e.symm
   rw[hf];simp
 ·rw[z7o (by omega)]
  have hf:t.Methods.find? (fun y=>y.Name==x)=none:=by
   rw[af9];intro y hy;obtain⟨q,hq,rfl⟩:=br8 hy;have:=p3 q hq (by omega);unfold mlt at this
   simpa using z0h this
  rw[hf];simp
def v4q(t:q6g)(x:q7d):Bool:=x.Methods.all fun m=>(mOf t m).2
theorem y1r(F:Nat)(t:q6g)(x:q7d)(hlen:t.Methods.length<=200)(hs:t.Methods.Pairwise (fun p q=>Op.bytesLess p.Name q.Name=true))(hF:1000<=F):M54 F t x=some (v4q t x):=by
 unfold M54 v4q;rw[q9e];generalize x.Methods=l
 induction l with
 |nil=>rfl
 |cons m l ih=>
  rw[j5q,w2h F t m hlen hs hF,cl8,ih,aj9];cases (mOf t m).2<;>simp
abbrev w0q:=List (Tx×Int)
def j2y(m:w0q):Int->List Tx->w0q
 |_,[]=>m
 |n,x::l=>j2y (q0d m x n) (n+1) l
theorem z8i(x:Tx):∀(l:List Tx) (m:w0q) (n:Int),x ∉ l->q3b (j2y m n l) x=q3b m x
 |[],m,n,_=>rfl
 |y::l,m,n,h=>by
  rw[j2y,z8i x l _ _ (fun hh=>h (cl9 _ hh)),q8g,if_neg (fun e=>h (by rw[e];simp))]
theorem z5d:∀(l:List Tx) (m:w0q) (n:Int) (i:Nat) (h:i<l.length),l.Pairwise (fun a b=>Op.bytesLess a b=true)->q3b (j2y m n l) l[i]=some (n+i)
 |[],m,n,i,h,_=>by simp at h
 |x::l,m,n,0,h,hp=>by
  have hp:=cf9.1 hp;rw[j2y,ce8,z8i x l _ _ (fun hh=>z0h (hp.1 x hh) rfl),q8g,if_pos rfl];simp
 |x::l,m,n,i+1,h,hp=>by
  have hp:=cf9.1 hp;rw[j2y,List.getElem_cons_succ,z5d l _ (n+1) i (by simpa using h) hp.2]
  congr 1;omega
theorem v5h{F:Nat}(k:w0q->Option (Option q8b)):∀(l:List q8e) (n:Int) (m:w0q),j8j F k l n m=k (j2y m n (l.map (·.Name)))
 |[],n,m=>rfl
 |x::l,n,m=>by rw[j8j,v5h k l];rfl
theorem v4h{F:Nat}(k:w0q->Option (Option q8b)):∀(l:List q6g) (n:Int) (m:w0q),j7j F k l n m=k (j2y m n (l.map (·.Name)))
 |[],n,m=>rfl
 |x::l,n,m=>by rw[j7j,v4h k l];rfl
theorem v2h{F:Nat}(k:z0u->Option (Option q8b)):∀(l:List Tx) (m:z0u),j4j F k l m=k (z6f m l)
 |[],m=>rfl
 |x::l,m=>by rw[j4j,v2h k l];rfl
abbrev w4i:=List (Tx×List Int)
def q0p(x:q7d):Int->List q6g->List Int
 |_,[]=>[]
 |n,t::l=>if v4q t x=true then n::q0p x (n+1) l else q0p x (n+1) l
theorem j7p(x:q7d):∀(l:List q6g) (n:Int),(q0p x n l).length<=l.length
 |[],n=>by simp[q0p]
 |t::l,n=>by
  have:=j7p x l (n+1);rw[q0p];split<;>simp<;>omega
theorem z0t(x:q7d):∀(l:List q6g) (n:Int) (t:Int),t∈q0p x n l<->∃i:Nat,∃h:i<l.length,t=n+i/\v4q l[i] x=true
 |[],n,t=>by simp[q0p]
 |y::l,n,t=>by
  have ih:=z0t x l (n+1) t;rw[q0p];constructor
  ·intro h
   have:(t=n/\v4q y x=true)\/t∈q0p x (n+1) l:=by
    split at h
    ·rename_i hf;rcases ax8.1 h with rfl|h
     ·exact .inl ⟨rfl,hf⟩
     ·exact .inr h
    ·exact .inr h
   rcases this with ⟨rfl,hf⟩|h
   ·exact⟨0,by simp,by simp,hf⟩
   ·obtain⟨i,h1,h2,h3⟩:=ih.1 h;exact⟨i+1,by simpa using h1,by rw[h2];omega,h3⟩
  ·rintro⟨i,h1,h2,h3⟩
   cases i with
   |zero=>
    have h3:v4q y x=true:=h3;rw[if_pos h3];simp at h2;simp[h2]
   |succ i=>
    have:t∈q0p x (n+1) l:=ih.2 ⟨i,by simpa using h1,by rw[h2];omega,h3⟩;split
    ·exact cl9 _ this
    ·exact this
def v1o(T:List q6g)(m:w4i)(x:q7d):w4i:=if (q0p x 0 T).isEmpty=true then m else q0d m x.Name ((q3b m x.Name).getD []++q0p x 0 T)
theorem j5j(F:Nat)(x:q7d)(k:w4i->Option (Option q8b))(hF:1000<=F):∀(l:List q6g) (n:Int) (m:w4i),(∀t,t∈l->t.Methods.length<=200/\t.Methods.Pairwise (fun p q=>Op.bytesLess p.Name q.Name=true))->
  ((q3b m x.Name).getD []).length+l.length<=100000->z3y F x k l n m=k (if (q0p x n l).isEmpty=true then m else q0d m x.Name ((q3b m x.Name).getD []++q0p x n l))
 |[],n,m,_,_=>by simp[z3y,q0p]
 |t::l,n,m,ht,hb=>by
  obtain⟨t1,t2⟩:=ht t (by simp);simp only[cj8] at hb;rw[z3y,y1r F t x t1 t2 hF,cl8];simp only[q9e];by_cases hf:v4q t x=true
  ·rw[show q0p x n (t::l)=n::q0p x (n+1) l by rw[q0p,if_pos hf]];rw[if_pos hf,if_pos (by simp;omega),j5j F x k hF l (n+1) _ (fun q hq=>ht q (cl9 _ hq)) (by rw[q8g,if_pos rfl];simp;omega)]
   congr 1
   rw[q8g,if_pos rfl,ck9,if_neg (show ¬(n::q0p x (n+1) l).isEmpty=true by simp)];split
   ·rename_i he;rw[List.isEmpty_iff.1 he]
   ·rw[j0e];simp
  ·rw[show q0p x n (t::l)=q0p x (n+1) l by rw[q0p,if_neg hf]];rw[if_neg hf,j5j F x k hF l (n+1) m (fun q hq=>ht q (cl9 _ hq)) (by omega)]
def y4e(T:List q6g)(m:w4i):List q7d->w4i
 |[]=>m
 |x::l=>y4e T (v1o T m x) l
theorem j6o(T:List q6g)(m:w4i)(x:q7d)(n:Tx):(q3b (v1o T m x) n).getD []=(q3b m n).getD []++if x.Name=n then q0p x 0 T else []:=by
 unfold v1o;by_cases h:q0p x 0 T=[]
 ·rw[if_pos (by rw[h];rfl),h];simp
 ·rw[if_neg (by simpa using h),q8g];by_cases h2:x.Name=n
  ·subst h2;simp
  ·rw[if_neg h2,if_neg h2];simp
theorem v3h(F:Nat)(g:q4c)(k:w4i->Option (Option q8b))(hF:1000<=F)(hT:∀t,t∈g.Types->t.Methods.length<=200/\t.Methods.Pairwise (fun p q=>Op.bytesLess p.Name q.Name=true))(htl:g.Types.length<=500):
  ∀(l:List q7d) (m:w4i),l.Pairwise (fun a b=>Op.bytesLess a.Name b.Name=true)->(∀x,x∈l->(q3b m x.Name).getD []=[])->j6j F g k l m=k (y4e g.Types m l)
 |[],m,_,_=>rfl
 |x::l,m,hp,hm=>by
  have hp:=cf9.1 hp;rw[j6j];simp only[q9e];rw[j5j F x _ hF g.Types 0 m hT (by rw[hm x (by simp)];simp;omega)]
  rw[v3h F g k hF hT htl l _ hp.2 (fun y hy=>by
   have:=j6o g.Types m x y.Name;unfold v1o at this;rw[this,hm y (cl9 _ hy),if_neg (z0h (hp.1 y hy))];rfl)]
  rfl
theorem j7a(T:List q6g)(n:Tx):∀(l:List q7d) (m:w4i),l.Pairwise (fun a b=>Op.bytesLess a.Name b.Name=true)->(q3b (y4e T m l) n).getD []=(q3b m n).getD []++((l.find? fun x=>x.Name==n).elim [] fun x=>q0p x 0 T)
 |[],m,_=>by simp[y4e]
 |x::l,m,hp=>by
  have hp:=cf9.1 hp;rw[y4e,j7a T n l _ hp.2,j6o,ch8];by_cases h:x.Name=n
  ·have h2:l.find? (fun x=>x.Name==n)=none:=by
    rw[af9];intro y hy;have:=z0h (hp.1 y hy);rw[h] at this
    simpa using fun e=>this e.symm
   rw[if_pos h,h2,show(x.Name==n)=true by simpa using h];simp
  ·rw[if_neg h,show(x.Name==n)=false by simpa using h];simp
def wOf(g:q4c)(how:Int)(fs:List Tx):q8b:=
 q8b.mk g (j2y [] 0 (g.Funcs.map (·.Name))) (j2y [] 0 (g.Types.map (·.Name))) (y4e g.Types [] g.Ifaces) (z6f (q0d [] [] true) fs) (how==2)
theorem w4u(F:Nat)(g:q4c)(how:Int)(fs:List Tx)(R:q5i g)(hF:1000<=F):M21 F g how fs=some (some (wOf g how fs)):=by
 unfold M21;simp only[q9e,v5h,v4h,v2h];rw[v3h F g _ hF (fun t ht=>⟨(R.t t ht).len,(R.t t ht).srt⟩) R.tl g.Ifaces [] R.isrt (fun x _=>rfl)];rfl
def z4z(g:q4c)(how:Int)(fs:List Tx):Int:=if chk false g≠0 then chk false g else if feE fs≠0 then feE fs else if how=1\/how=2 then 0 else 7
theorem w3u(F:Nat)(g:q4c)(how:Int)(fs:List Tx)(hg:q3o g)(hfs:∀x,x∈fs->x.length<=maxLen)(hF:1000<=F):M34 F g how fs=some (if z4z g how fs≠0 then none else some (wOf g how fs),z4z g how fs):=by
 unfold M34 z4z;rw[w7h F g hg,cl8,y7q F fs hfs,cl8];by_cases h1:chk false g=0
 ·rw[if_neg (by simp[h1]),if_neg (show ¬chk false g≠0 by simp[h1])];by_cases h2:feE fs=0
  ·rw[if_neg (by simp[h2]),if_neg (show ¬feE fs≠0 by simp[h2]),w4u F g how fs (j1a h1) hF];by_cases h3:how=1
   ·simp[h3]
   ·by_cases h4:how=2
    ·simp[h4]
    ·simp[h3,h4]
  ·rw[if_pos (by simpa using h2),if_pos h2];simp[h2]
 ·rw[if_pos (by simpa using h1),if_pos h1];simp[h1]
def tru(l:List Bool)(n:Nat):Prop:=l[n]? = some true
def fls(l:List Bool):Nat:=l.countP fun b=>!b
theorem q5u{l:List Bool}{i n:Nat}(hi:i<l.length):tru (l.set i true) n<->n=i\/tru l n:=by
 unfold tru;rw[bt8];by_cases h:i=n
 ·subst h;simp[hi]
 ·rw[if_neg h];constructor
  ·exact .inr
  ·rintro(h2|h2)
   ·exact absurd h2.symm h
   ·exact h2
theorem y6b{l:List Bool}{i:Nat}(hi:i<l.length)(h:l[i]=false):fls (l.set i true)+1=fls l:=by
 induction l generalizing i with
 |nil=>simp at hi
 |cons x l ih=>
  cases i with
  |zero=>
   simp only[ce8] at h;subst h;simp[fls]
  |succ i=>
   have:=ih (i:=i) (by simpa using hi) (by simpa using h);unfold fls at this ⊢;rw[List.set_cons_succ,List.countP_cons,List.countP_cons];omega
structure j6v(A:Nat->Prop)(l:List Bool)(q:List Int)(l':List Bool)(q':List Int):Prop where
 len:l'.length=l.length
 mu:q'.length+fls l'=q.length+fls l
 old:∀n,tru l n->tru l' n
 new:∀n,tru l' n->tru l n\/(A n/\(n:Int)∈q')
 qold:∀x,x∈q->x∈q'
 qnew:∀x,x∈q'->x∈q\/∃n:Nat,x=n/\A n/\tru l' n
theorem j6v.refl{A:Nat->Prop}{l:List Bool}{q:List Int}:j6v A l q l q:=⟨rfl,rfl,fun _ h=>h,fun _ h=>.inl h,fun _ h=>h,fun _ h=>.inl h⟩
theorem j6v.trans{A:Nat->Prop}{l l' l'':List Bool}{q q' q'':List Int}(h:j6v A l q l' q')(g:j6v A l' q' l'' q''):j6v A l q l'' q'' where
 len:=g.len.trans h.len
 mu:=g.mu.trans h.mu
 old:=fun n hn=>g.old n (h.old n hn)
 new:=fun n hn=>by
  rcases g.new n hn with h1|h1
  ·rcases h.new n h1 with h2|h2
   ·exact .inl h2
   ·exact .inr ⟨h2.1,g.qold _ h2.2⟩
  ·exact .inr h1
 qold:=fun x hx=>g.qold x (h.qold x hx)
 qnew:=fun x hx=>by
  rcases g.qnew x hx with h1|h1
  ·rcases h.qnew x h1 with h2|⟨n,h2,h3,h4⟩
   ·exact .inl h2
   ·exact .inr ⟨n,h2,h3,g.old n h4⟩
  ·exact .inr h1
theorem j6v.weak{A B:Nat->Prop}{l l':List Bool}{q q':List Int}(h:j6v A l q l' q')(hab:∀n,A n->B n):j6v B l q l' q' where
 len:=h.len
 mu:=h.mu
 old:=h.old
 new:=fun n hn=>(h.new n hn).imp id (fun x=>⟨hab n x.1,x.2⟩)
 qold:=h.qold
 qnew:=fun x hx=>(h.qnew x hx).imp id (fun⟨n,h1,h2,h3⟩=>⟨n,h1,hab n h2,h3⟩)
theorem v6r(F:Nat)(w:q8b)(l md:List Bool)(m:List (q3a×Bool))(o:List q3a)(ty q:List Int)(n:Nat)(hn:n<l.length)(hb:q.length+fls l<=100000):
  ∃l' q',M44 F (n:Int) w l md m o ty q=some (l',q')/\j6v (fun k=>k=n) l q l' q'/\tru l' n:=by
 unfold M44;rw[q9l hn,cl8];cases hl:l[n]
 ·rw[if_pos (by simp),cl8,if_pos (by simp;omega),bq8];refine⟨l.set n true,q++[(n:Int)],rfl,⟨by simp,?_,fun k hk=>(q5u hn).2 (.inr hk),fun k hk=>?_,fun x hx=>cw9 _ hx,fun x hx=>?_⟩,(q5u hn).2 (.inl rfl)⟩
  ·have:=y6b hn hl;simp;omega
  ·rcases(q5u hn).1 hk with rfl|hk
   ·exact .inr ⟨rfl,by simp⟩
   ·exact .inl hk
  ·rcases cm8.1 hx with hx|hx
   ·exact .inl hx
   ·simp at hx;exact .inr ⟨n,hx,rfl,(q5u hn).2 (.inl rfl)⟩
 ·rw[if_neg (by simp)];exact⟨l,q,rfl,j6v.refl,by unfold tru;rw[be8 hn,hl]⟩
def fI(w:q8b)(x:Tx):Int:=(q3b w.funcs x).getD 0
def tI(w:q8b)(x:Tx):Int:=(q3b w.types x).getD 0
def onB(w:q8b)(x:Tx):Bool:=(q3b w.on x).getD false
def j6p(w:q8b)(x:Tx):List Int:=(q3b w.fitting x).getD []
def q6r(c:q4e):q3a:=q3a.mk c.Target c.Method
inductive RR(F:Nat)(w:q8b):Bool->Int->Prop
 |entry {e:Tx} (h:e∈w.g.Entries):RR F w false (fI w e)
 |dir {f:Int} {x:q8e} {c:q4e} (hf:RR F w false f) (hx:idx w.g.Funcs f=some x) (hc:c∈x.Calls) (ho:onB w c.Feature=true) (k:c.Kind=1):RR F w false (fI w c.Target)
 |dis {f t v:Int} {x:q8e} {c:q4e} (hf:RR F w false f) (hx:idx w.g.Funcs f=some x) (hc:c∈x.Calls) (ho:onB w c.Feature=true) (k:c.Kind≠1) (ht:t∈j6p w c.Target) (hm:w.made=true->RR F w true t) (hv:M47 F w c t=some v):RR F w false v
 |mk {f:Int} {x:q8e} {t:Tx} (hf:RR F w false f) (hx:idx w.g.Funcs f=some x) (ht:t∈x.Makes):RR F w true (tI w t)
theorem y0d(F:Nat)(w:q8b){c c':q4e}(h:c.Method=c'.Method)(t:Int):M47 F w c t=M47 F w c' t:=by unfold M47;rw[h]
structure WOk(F:Nat)(w:q8b):Prop where
 fl:w.g.Funcs.length<=3000
 tl:w.g.Types.length<=500
 ent:∀e,e∈w.g.Entries->∃i:Nat,i<w.g.Funcs.length/\fI w e=i
 cl:∀x,x∈w.g.Funcs->x.Calls.length<=200
 mks:∀x,x∈w.g.Funcs->∀t,t∈x.Makes->∃i:Nat,i<w.g.Types.length/\tI w t=i
 dir:∀x,x∈w.g.Funcs->∀c,c∈x.Calls->∃i:Nat,i<w.g.Funcs.length/\fI w c.Target=i
 fit:∀s t,t∈j6p w s->∃i:Nat,i<w.g.Types.length/\t=i
 tgt:∀c (t:Int),(∃i:Nat,i<w.g.Types.length/\t=i)->0<w.g.Funcs.length->∃i:Nat,i<w.g.Funcs.length/\M47 F w c t=some (i:Int)
def SC(s:q3a):q4e:=q4e.mk 0 s.iface s.method []
def y3s(F:Nat)(w:q8b)(l md:List Bool)(o:List q3a)(n:Nat):Prop:=
 ∀x,idx w.g.Funcs (n:Int)=some x->(∀t,t∈x.Makes->∀i:Nat,tI w t=i->tru md i)/\∀c,c∈x.Calls->onB w c.Feature=true->(c.Kind=1->∀i:Nat,fI w c.Target=i->tru l i)/\(c.Kind≠1->q6r c∈o)
structure Inv(F:Nat)(w:q8b)(l md:List Bool)(m:List (q3a×Bool))(o:List q3a)(q:List Int)(b z:Nat)(E:Nat->Prop):Prop where
 ll:l.length=w.g.Funcs.length
 ml:md.length=w.g.Types.length
 mu:o.length+200*(q.length+fls l)+b<=600000
 qm:q.length+fls l=z/\z<=3000
 qr:∀x,x∈q->∃n:Nat,x=n/\tru l n
 sf:∀n,tru l n->RR F w false n
 st:∀n,tru md n->RR F w true n
 ms:∀s,(q3b m s).getD false=true<->s∈o
 so:∀s,s∈o->∃f x c,RR F w false f/\idx w.g.Funcs f=some x/\c∈x.Calls/\onB w c.Feature=true/\c.Kind≠1/\s=q6r c
 cls:∀s,s∈o->∀t,t∈j6p w s.iface->(w.made=true->tru md t.toNat)->∀n:Nat,M47 F w (SC s) t=some (n:Int)->tru l n
 dn:∀n,tru l n->(n:Int)∈q\/y3s F w l md o n\/E n
theorem y3s.mono{F:Nat}{w:q8b}{l md l' md':List Bool}{o o':List q3a}{n:Nat}(h:y3s F w l md o n)(hl:∀n,tru l n->tru l' n)(hm:∀n,tru md n->tru md' n)(ho:∀s,s∈o->s∈o'):y3s F w l' md' o' n:=fun x hx=>
 ⟨fun t ht i hi=>hm i ((h x hx).1 t ht i hi),fun c hc hon=>⟨fun k i hi=>hl i (((h x hx).2 c hc hon).1 k i hi),fun k=>ho _ (((h x hx).2 c hc hon).2 k)⟩⟩
theorem v9x{l:List Bool}{n:Nat}(h:tru l n):n<l.length:=(bi8.1 h).1
theorem Inv.grow{F:Nat}{w:q8b}{l md l':List Bool}{m:List (q3a×Bool)}{o:List q3a}{q q':List Int}{b z:Nat}{E A:Nat->Prop}(I:Inv F w l md m o q b z E)(G:j6v A l q l' q')(hA:∀n,A n->RR F w false n):Inv F w l' md m o q' b z E where
 ll:=G.len.trans I.ll
 ml:=I.ml
 mu:=by rw[G.mu];exact I.mu
 qm:=by rw[G.mu];exact I.qm
 qr:=fun x hx=>by
  rcases G.qnew x hx with h|⟨n,h1,_,h3⟩
  ·obtain⟨n,h1,h2⟩:=I.qr x h;exact⟨n,h1,G.old n h2⟩
  ·exact⟨n,h1,h3⟩
 sf:=fun n hn=>by
  rcases G.new n hn with h|h
  ·exact I.sf n h
  ·exact hA n h.1
 st:=I.st
 ms:=I.ms
 so:=I.so
 cls:=fun s hs t ht hm n hn=>G.old n (I.cls s hs t ht hm n hn)
 dn:=fun n hn=>by
  rcases G.new n hn with h|h
  ·rcases I.dn n h with h1|h1|h1
   ·exact .inl (G.qold _ h1)
   ·exact .inr (.inl (h1.mono G.old (fun _ h=>h) (fun _ h=>h)))
   ·exact .inr (.inr h1)
  ·exact .inl h.2
theorem j7f(F:Nat)(w:q8b)(c:q4e)(md:List Bool)(m:List (q3a×Bool))(o:List q3a)(ty:List Int)(hml:md.length=w.g.Types.length):
  ∀(ts:List Int) (l:List Bool) (q:List Int),(∀t,t∈ts->(∃i:Nat,i<w.g.Types.length/\t=i)/\∃i:Nat,i<l.length/\M47 F w c t=some (i:Int))->q.length+fls l<=100000->
  ∃l' q',z3r F c w md m o ty ts l q=some (l',q0d m (q6r c) true,o++[q6r c],q')/\j6v (fun n=>∃t,t∈ts/\(w.made=true->tru md t.toNat)/\M47 F w c t=some (n:Int)) l q l' q'/\
   ∀t,t∈ts->(w.made=true->tru md t.toNat)->∀n:Nat,M47 F w c t=some (n:Int)->tru l' n
 |[],l,q,_,_=>⟨l,q,rfl,j6v.refl,by simp⟩
 |t::ts,l,q,h,hb=>by
  obtain⟨⟨i,hi,rfl⟩,v,hv,hM⟩:=h t (by simp)
  -- the step, if it is taken
  have step:(w.made=true->tru md i)->∃l' q',(M44 F (v:Int) w l md (q0d m (q6r c) true) (o++[q6r c]) ty q=some (l',q'))/\(∃l'' q'',z3r F c w md m o ty ts l' q'=some (l'',q0d m (q6r c) true,o++[q6r c],q'')/\j6v (fun n=>∃u,u∈(i:Int)::ts/\(w.made=true->tru md u.toNat)/\M47 F w c u=some (n:Int)) l q l'' q''/\
    ∀u,u∈(i:Int)::ts->(w.made=true->tru md u.toNat)->∀n:Nat,M47 F w c u=some (n:Int)->tru l'' n):=by
   intro hm;obtain⟨l',q',e1,g1,t1⟩:=v6r F w l md (q0d m (q6r c) true) (o++[q6r c]) ty q v hv hb;obtain⟨l'',q'',e2,g2,t2⟩:=j7f F w c md m o ty hml ts l' q' (fun u hu=>by rw[g1.len];exact h u (cl9 _ hu)) (by rw[g1.mu];exact hb);refine⟨l',q',e1,l'',q'',e2,(g1.weak (fun n hn=>⟨(i:Int),by simp,by simpa using hm,by subst hn;exact hM⟩)).trans (g2.weak fun n ⟨u,h1,h2⟩=>⟨u,cl9 _ h1,h2⟩),fun u hu hmu n hn=>?_⟩;rcases ax8.1 hu with rfl|hu
   ·rw[hM] at hn;simp only[bc8] at hn;obtain rfl:v=n:=by omega
    exact g2.old _ t1
   ·exact t2 u hu hmu n hn
  have skip:¬(w.made=true->tru md i)->∃l'' q'',z3r F c w md m o ty ts l q=some (l'',q0d m (q6r c) true,o++[q6r c],q'')/\j6v (fun n=>∃u,u∈(i:Int)::ts/\(w.made=true->tru md u.toNat)/\M47 F w c u=some (n:Int)) l q l'' q''/\
    ∀u,u∈(i:Int)::ts->(w.made=true->tru md u.toNat)->∀n:Nat,M47 F w c u=some (n:Int)->tru l'' n:=by
   intro hm;obtain⟨l'',q'',e2,g2,t2⟩:=j7f F w c md m o ty hml ts l q (fun u hu=>h u (cl9 _ hu)) hb;refine⟨l'',q'',e2,g2.weak fun n ⟨u,h1,h2⟩=>⟨u,cl9 _ h1,h2⟩,fun u hu hmu n hn=>?_⟩;rcases ax8.1 hu with rfl|hu
   ·exact absurd (by simpa using hmu) hm
   ·exact t2 u hu hmu n hn
  rw[z3r];simp only[q9e];by_cases hmade:w.made=true
  ·rw[if_neg (by simp[hmade]),q9l (by omega:i<md.length),cl8];cases hmd:md[i]
   ·rw[if_neg (by simp)];exact skip (fun h=>by have:=h hmade;unfold tru at this;rw[be8 (by omega),hmd] at this;simp at this)
   ·rw[if_pos rfl,hM,cl8];obtain⟨l',q',e1,r⟩:=step (fun _=>by unfold tru;rw[be8 (by omega),hmd]);have e1':M44 F (v:Int) w l md (q0d m (q3a.mk c.Target c.Method) true) (o++([(q3a.mk c.Target c.Method)]:List q3a)) ty q=some (l',q'):=e1;rw[e1',cl8];exact r
  ·rw[if_pos (by simpa using hmade),hM,cl8];obtain⟨l',q',e1,r⟩:=step (fun h=>absurd h hmade);have e1':M44 F (v:Int) w l md (q0d m (q3a.mk c.Target c.Method) true) (o++([(q3a.mk c.Target c.Method)]:List q3a)) ty q=some (l',q'):=e1;rw[e1',cl8];exact r
structure v4i(l md:List Bool)(o:List q3a)(l' md':List Bool)(o':List q3a):Prop where
 l:∀n,tru l n->tru l' n
 m:∀n,tru md n->tru md' n
 o:∀s,s∈o->s∈o'
theorem v4i.refl{l md:List Bool}{o:List q3a}:v4i l md o l md o:=⟨fun _ h=>h,fun _ h=>h,fun _ h=>h⟩
theorem v4i.trans{l md l' md' l'' md'':List Bool}{o o' o'':List q3a}(h:v4i l md o l' md' o')(g:v4i l' md' o' l'' md'' o''):v4i l md o l'' md'' o'':=
 ⟨fun n x=>g.l n (h.l n x),fun n x=>g.m n (h.m n x),fun n x=>g.o n (h.o n x)⟩
theorem w5m{F:Nat}{w:q8b}(W:WOk F w){l md:List Bool}{m:List (q3a×Bool)}{o:List q3a}{q:List Int}{b z:Nat}{E:Nat->Prop}(I:Inv F w l md m o q (b+1) z E)
  {f:Int} {x:q8e} {c:q4e} (hf:RR F w false f) (hx:idx w.g.Funcs f=some x) (hxm:x∈w.g.Funcs) (hc:c∈x.Calls) (ho:onB w c.Feature=true) (hN:0<w.g.Funcs.length) (ty:List Int):
  ∃l' m' o' q',M46 F c w l md m o ty q=some (l',m',o',q')/\Inv F w l' md m' o' q' b z E/\v4i l md o l' md o'/\(c.Kind=1->∀i:Nat,fI w c.Target=i->tru l' i)/\(c.Kind≠1->q6r c∈o'):=by
 have weak:∀{l':List Bool} {q':List Int},Inv F w l' md m o q' (b+1) z E->Inv F w l' md m o q' b z E:=fun J=>⟨J.ll,J.ml,by have:=J.mu;omega,J.qm,J.qr,J.sf,J.st,J.ms,J.so,J.cls,J.dn⟩;unfold M46;by_cases k1:c.Kind=1
 ·rw[if_pos (by simpa using k1)];obtain⟨i,hi,he⟩:=W.dir x hxm c hc;have he':(q3b w.funcs c.Target).getD 0=(i:Int):=he;rw[he'];obtain⟨l',q',e1,g1,t1⟩:=v6r F w l md m o ty q i (by rw[I.ll];exact hi) (by have:=I.qm;omega);rw[e1,cl8];refine⟨l',m,o,q',rfl,weak (I.grow g1 (fun n hn=>?_)),⟨g1.old,fun _ h=>h,fun _ h=>h⟩,fun _ j hj=>?_,fun h=>absurd k1 h⟩
  ·subst hn;have:=RR.dir hf hx hc ho k1
   rwa [he] at this
  ·rw[he] at hj;obtain rfl:i=j:=by omega
   exact t1
 ·rw[if_neg (by simpa using k1)];by_cases hs:q6r c∈o
  ·have:=(I.ms (q6r c)).2 hs;rw[if_pos (show(q3b m (q3a.mk c.Target c.Method)).getD false=true from this)];exact⟨l,m,o,q,rfl,weak I,v4i.refl,fun h=>absurd h k1,fun _=>hs⟩
  ·have hs':¬(q3b m (q6r c)).getD false=true:=fun h=>hs ((I.ms _).1 h);rw[if_neg (show ¬(q3b m (q3a.mk c.Target c.Method)).getD false=true from hs'),if_pos (by have:=I.mu;simp;omega)]
   obtain⟨l',q',e1,g1,t1⟩:=j7f F w c md m o ty I.ml ((q3b w.fitting c.Target).getD []) l q (fun t ht=>⟨W.fit _ t ht,by
    obtain⟨i,hi,hM⟩:=W.tgt c t (W.fit _ t ht) hN;exact⟨i,by rw[I.ll];exact hi,hM⟩⟩) (by have:=I.qm;omega)
   rw[e1]
   have J:=I.grow g1 (fun n ⟨t,h1,h2,h3⟩=>RR.dis hf hx hc ho k1 h1 (fun hm=>by
    obtain⟨i,hi,rfl⟩:=W.fit _ t h1;exact I.st i (by simpa using h2 hm)) h3)
   refine⟨l',_,_,q',rfl,⟨J.ll,J.ml,by have:=J.mu;simp;omega,J.qm,J.qr,J.sf,J.st,fun s=>?_,fun s hh=>?_,fun s hh t ht hm n hn=>?_,fun n hn=>?_⟩,⟨g1.old,fun _ h=>h,fun s h=>cw9 _ h⟩,fun h=>absurd h k1,fun _=>by simp⟩
   ·rw[q8g];by_cases h:q6r c=s
    ·subst h;simp
    ·rw[if_neg h,I.ms s];constructor
     ·exact fun h2=>cw9 _ h2
     ·intro h2;rcases cm8.1 h2 with h2|h2
      ·exact h2
      ·simp at h2;exact absurd h2.symm h
   ·rcases cm8.1 hh with h|h
    ·exact I.so s h
    ·simp at h;subst h;exact⟨f,x,c,hf,hx,hc,ho,k1,rfl⟩
   ·rcases cm8.1 hh with h|h
    ·exact J.cls s h t ht hm n hn
    ·simp at h;subst h;exact t1 t ht hm n (by rw[y0d F w (show c.Method=(SC (q6r c)).Method from rfl)];exact hn)
   ·rcases J.dn n hn with h|h|h
    ·exact .inl h
    ·exact .inr (.inl (h.mono (fun _ h=>h) (fun _ h=>h) (fun s h=>cw9 _ h)))
    ·exact .inr (.inr h)
theorem y4q(F:Nat)(l:List Int)(x:Int):M71 F l x=some (l.contains x):=by
 unfold M71 M94;rw[q9e];have:=y2z (g:=j0h F x (some (-1))) (fun y:Int=>x==y) (fun _=>rfl) (fun y l n=>by rw[j0h]) l 0;rw[show((0:Nat):Int)=0 from rfl] at this;rw[this];have e:(l.any fun y=>x==y)=l.contains x:=by rw[List.contains_eq_any_beq]
 rw[e];cases l.contains x
 ·rfl
 ·simp
theorem j4e(F:Nat)(w:q8b)(W:WOk F w)(i:Nat)(hi:i<w.g.Types.length)(hN:0<w.g.Funcs.length)(md:List Bool)(m:List (q3a×Bool))(o:List q3a)(ty:List Int):
  ∀(ss:List q3a) (l:List Bool) (q:List Int),l.length=w.g.Funcs.length->q.length+fls l<=100000->
  ∃l' q',z6x F i w md m o ty ss l q=some (l',md.set i true,q')/\j6v (fun n=>∃s,s∈ss/\(i:Int)∈j6p w s.iface/\M47 F w (SC s) i=some (n:Int)) l q l' q'/\
   ∀s,s∈ss->(i:Int)∈j6p w s.iface->∀n:Nat,M47 F w (SC s) i=some (n:Int)->tru l' n
 |[],l,q,_,_=>⟨l,q,by rw[z6x,bq8],j6v.refl,by simp⟩
 |s::ss,l,q,hl,hb=>by
  rw[z6x];simp only[q9e];rw[y4q,cl8];by_cases h:(i:Int)∈j6p w s.iface
  ·have h':(((q3b w.fitting s.iface).getD ([]:List Int)).contains (i:Int))=true:=by
    have:(j6p w s.iface).contains (i:Int)=true:=by simpa using h
    exact this
   obtain⟨v,hv,hM⟩:=W.tgt (SC s) i ⟨i,hi,rfl⟩ hN;have hM':M47 F w (q4e.mk 0 s.iface s.method ([]:B8)) i=some (v:Int):=hM;obtain⟨l',q',e1,g1,t1⟩:=v6r F w l (md.set (Int.toNat i) true) m o ty q v (by rw[hl];exact hv) hb;rw[if_pos h',hM',cl8,e1,cl8];obtain⟨l'',q'',e2,g2,t2⟩:=j4e F w W i hi hN md m o ty ss l' q' (by rw[g1.len];exact hl) (by rw[g1.mu];exact hb);refine⟨l'',q'',e2,(g1.weak (fun n hn=>⟨s,by simp,h,by subst hn;exact hM⟩)).trans (g2.weak fun n ⟨u,h1,h2⟩=>⟨u,cl9 _ h1,h2⟩),fun u hu hm n hn=>?_⟩;rcases ax8.1 hu with rfl|hu
   ·rw[hM] at hn;simp only[bc8] at hn;obtain rfl:v=n:=by omega
    exact g2.old _ t1
   ·exact t2 u hu hm n hn
  ·have h':¬(((q3b w.fitting s.iface).getD ([]:List Int)).contains (i:Int))=true:=by
    have:¬(j6p w s.iface).contains (i:Int)=true:=by simpa using h
    exact this
   rw[if_neg h'];obtain⟨l'',q'',e2,g2,t2⟩:=j4e F w W i hi hN md m o ty ss l q hl hb;refine⟨l'',q'',e2,g2.weak fun n ⟨u,h1,h2⟩=>⟨u,cl9 _ h1,h2⟩,fun u hu hm n hn=>?_⟩;rcases ax8.1 hu with rfl|hu
   ·exact absurd hm h
   ·exact t2 u hu hm n hn
theorem w4m{F:Nat}{w:q8b}(W:WOk F w){l md:List Bool}{m:List (q3a×Bool)}{o:List q3a}{q:List Int}{b z:Nat}{E:Nat->Prop}(I:Inv F w l md m o q b z E)
  (i:Nat) (hi:i<w.g.Types.length) (hN:0<w.g.Funcs.length) (hr:RR F w true i) (ty:List Int):
  ∃l' md' q',M45 F i w l md m o ty q=some (l',md',q')/\Inv F w l' md' m o q' b z E/\v4i l md o l' md' o/\tru md' i:=by
 have him:i<md.length:=by rw[I.ml];exact hi
 unfold M45;rw[q9l him,cl8];cases hmd:md[i]
 ·rw[if_neg (by simp),cl8]
  have base:Inv F w l (md.set i true) m o q b z E\/w.made=true:=by
   by_cases hm:w.made=true
   ·exact .inr hm
   ·refine .inl ⟨I.ll,by simp[I.ml],I.mu,I.qm,I.qr,I.sf,fun n hn=>?_,I.ms,I.so,fun s hs t ht _ n hn=>I.cls s hs t ht (fun h=>absurd h hm) n hn,fun n hn=>?_⟩
    ·rcases(q5u him).1 hn with rfl|h
     ·exact hr
     ·exact I.st n h
    ·rcases I.dn n hn with h|h|h
     ·exact .inl h
     ·exact .inr (.inl (h.mono (fun _ h=>h) (fun n h=>(q5u him).2 (.inr h)) (fun _ h=>h)))
     ·exact .inr (.inr h)
  by_cases hm:w.made=true
  ·rw[if_neg (by simp[hm])];obtain⟨l',q',e1,g1,t1⟩:=j4e F w W i hi hN md m o ty o l q I.ll (by have:=I.qm;omega);rw[e1]
   have hA:∀n:Nat,(∃s,s∈o/\(i:Int)∈j6p w s.iface/\M47 F w (SC s) i=some (n:Int))->RR F w false n:=by
    rintro n ⟨s,h1,h2,h3⟩
    obtain⟨f,x,c,c1,c2,c3,c4,c5,rfl⟩:=I.so s h1;exact RR.dis c1 c2 c3 c4 c5 h2 (fun _=>hr) (by rw[y0d F w (show c.Method=(SC (q6r c)).Method from rfl)];exact h3)
   have J:=I.grow g1 hA;refine⟨l',md.set i true,q',rfl,⟨J.ll,by simp[I.ml],J.mu,J.qm,J.qr,J.sf,fun n hn=>?_,J.ms,J.so,fun s hs t ht htm n hn=>?_,fun n hn=>?_⟩,⟨g1.old,fun n h=>(q5u him).2 (.inr h),fun _ h=>h⟩,(q5u him).2 (.inl rfl)⟩
   ·rcases(q5u him).1 hn with rfl|h
    ·exact hr
    ·exact I.st n h
   ·obtain⟨j,hj,rfl⟩:=W.fit _ t ht;by_cases hij:j=i
    ·subst hij;exact t1 s hs ht n hn
    ·refine J.cls s hs _ ht (fun hm=>?_) n hn;have:=htm hm;rw[bq8] at this ⊢;rcases(q5u him).1 this with h|h
     ·exact absurd h hij
     ·exact h
   ·rcases J.dn n hn with h|h|h
    ·exact .inl h
    ·exact .inr (.inl (h.mono (fun _ h=>h) (fun n h=>(q5u him).2 (.inr h)) (fun _ h=>h)))
    ·exact .inr (.inr h)
  ·rw[if_pos (by simpa using hm),bq8];rcases base with J|J
   ·exact⟨l,md.set i true,q,rfl,J,⟨fun _ h=>h,fun n h=>(q5u him).2 (.inr h),fun _ h=>h⟩,(q5u him).2 (.inl rfl)⟩
   ·exact absurd J hm
 ·rw[if_pos rfl];exact⟨l,md,q,rfl,I,v4i.refl,by unfold tru;rw[be8 him,hmd]⟩
end Go.Proofs.YtcihpgamojpcnaaGreat
