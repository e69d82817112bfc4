/- Part of the proof: C9PC, C9PD, C9PE, C9PF, FA, C9QA, C9QB. -/
import Derived.Test.YtelmfadihfcgnaaGreatDoorXC9PB
import Init.Data.List.Lemmas
set_option linter.unusedSimpArgs false
set_option linter.unusedVariables false
namespace Go.Proofs.YtelmfadihfcgnaaGreatDoor
open Go Go.Pv
set_option maxRecDepth 100000
mutual
theorem Tr.ind{P:Tr->Prop}(h:∀a b c d e ks,(∀t,t∈ks->P t)->P (.mk a b c d e ks)):∀t:Tr,P t
 | .mk a b c d e ks=>h a b c d e ks (Tr.inds h ks)
theorem Tr.inds{P:Tr->Prop}(h:∀a b c d e ks,(∀t,t∈ks->P t)->P (.mk a b c d e ks)):∀(ks:List Tr) (t:Tr),t∈ks->P t
 |[],_,hu=>absurd hu (by simp)
 |t::r,u,hu=>by
  rcases at8.1 hu with e|hu
  ·rw[e];exact Tr.ind h t
  ·exact Tr.inds h r u hu
end
noncomputable section
mutual
def Tr.fu:Tr->Nat
 | .mk a b c d e ks=>c.length+ks.length+2+Tr.fus ks
def Tr.fus:List Tr->Nat
 |[]=>0
 |t::r=>t.fu+Tr.fus r
end
mutual
def Tr.cnt:Tr->Nat
 | .mk a b c d e ks=>1+Tr.cnts ks
def Tr.cnts:List Tr->Nat
 |[]=>0
 |t::r=>t.cnt+Tr.cnts r
end
mutual
def Tr.dep:Tr->Nat
 | .mk a b c d e ks=>1+Tr.deps ks
def Tr.deps:List Tr->Nat
 |[]=>0
 |t::r=>max t.dep (Tr.deps r)
end
mutual
def Tr.flt:Tr->Int
 | .mk a b c d e ks=>if q6j ⟨a,b,c,d,e,Tr.toKs ks⟩=0 then Tr.flts ks else q6j ⟨a,b,c,d,e,Tr.toKs ks⟩
def Tr.flts:List Tr->Int
 |[]=>0
 |t::r=>if t.flt=0 then Tr.flts r else t.flt
end
def Tr.toK(t:Tr):q6e:=⟨q7a t.toT,q7h _,q3v _⟩
end
theorem Tr.dec(t:Tr):q1z q7a t.toK=some t.toT:=w1m t
theorem Tr.toKs_map:∀ks:List Tr,Tr.toKs ks=ks.map Tr.toK
 |[]=>by simp[Tr.toKs]
 |t::r=>by rw[Tr.toKs,Tr.toKs_map r];rfl
theorem q6t{ks:List Tr}{n:Nat}(h:n<ks.length):idx (Tr.toKs ks) (n:Int)=some (ks[n].toK):=by
 rw[Tr.toKs_map,q5h (by simpa using h)];simp
theorem Tr.fu_mem:∀{ks:List Tr} {t:Tr},t∈ks->t.fu<=Tr.fus ks
 |u::r,t,h=>by
  rw[Tr.fus];rcases at8.1 h with e|h
  ·subst e;omega
  ·have:=Tr.fu_mem h;omega
theorem Tr.oks_mem:∀{ks:List Tr} {t:Tr},Tr.oks ks->t∈ks->t.ok
 |u::r,t,ho,h=>by
  rw[Tr.oks] at ho;rcases at8.1 h with e|h
  ·subst e;exact ho.1
  ·exact Tr.oks_mem ho.2 h
theorem j3a:maxLen=9223372036854775807:=by decide
theorem Tr.okX{a b c d e ks}(h:(Tr.mk a b c d e ks).ok):okX ⟨a,b,c,d,e,Tr.toKs ks⟩:=by
 rw[Tr.ok] at h;exact⟨h.2.1,h.2.2.1.1,h.2.2.1.2,by rw[show(Tr.toKs ks).length=ks.length from Tr.toKs_len ks];exact h.2.2.2.2.2.2⟩
theorem Tr.okks{a b c d e ks}(h:(Tr.mk a b c d e ks).ok):Tr.oks ks/\ks.length<=9223372036854775807:=by
 rw[Tr.ok,j3a] at h;exact⟨h.2.2.2.2.2.1,h.2.2.2.2.2.2⟩
theorem Tr.cnt_mem:∀{ks:List Tr} {t:Tr},t∈ks->t.cnt<=Tr.cnts ks
 |u::r,t,h=>by
  rw[Tr.cnts];rcases at8.1 h with e|h
  ·subst e;omega
  ·have:=Tr.cnt_mem h;omega
theorem y1d(t:Tr):1<=t.cnt:=by cases t;rw[Tr.cnt];omega
theorem v2k:∀ks:List Tr,ks.length<=Tr.cnts ks
 |[]=>by simp[Tr.cnts]
 |t::r=>by rw[Tr.cnts];have:=v2k r;have:=y1d t;simp;omega
theorem v7f:∀(ks:List Tr),(∀t,t∈ks->t.dep<=t.cnt)->Tr.deps ks<=Tr.cnts ks
 |[],_=>by simp[Tr.deps]
 |t::r,h=>by
  rw[Tr.deps,Tr.cnts];have h1:=h t (by simp);have h2:=v7f r fun u hu=>h u (by simp[hu]);omega
theorem y0s:∀t:Tr,t.dep<=t.cnt:=Tr.ind fun a b c d e ks ih=>by rw[Tr.dep,Tr.cnt];have:=v7f ks ih;omega
theorem y7u:∀t:Tr,t.ok->∀F,t.fu<=F->M87 F t.toT=some t.flt:=Tr.ind fun a b c d e ks ih ok F hF=>by
 rw[Tr.fu] at hF;obtain⟨F,rfl⟩:∃G,F=G+1:=⟨F - 1,by omega⟩
 show j4z (M87 F) F (Tr.mk a b c d e ks).toT=_
 rw[Tr.toT,w8q F _ _ (Tr.okX ok),Tr.flt]
 have hl:∀l:List Tr,(∀t,t∈l->t∈ks)->z6f (M87 F) F (some 0) (Tr.toKs l)=some (Tr.flts l):=by
  intro l
  induction l with
  |nil=>intro _;simp only[Tr.toKs,z6f,Tr.flts]
  |cons t r ihr=>
   intro hm;have ht:=hm t (by simp);rw[Tr.toKs_map,bo9,z6f,Tr.dec,cb8,ih t ht (Tr.oks_mem (Tr.okks ok).1 ht) F (by have:=Tr.fu_mem ht;omega),cb8,<-Tr.toKs_map,ihr fun u hu=>hm u (by simp[hu]),Tr.flts];by_cases h0:t.flt=0<;>simp[h0]
 rw[hl ks fun _ h=>h];by_cases h0:q6j ⟨a,b,c,d,e,Tr.toKs ks⟩=0
 ·simp[h0]
 ·rw[if_neg h0,if_pos (by simp[h0])]
theorem y2u:∀t:Tr,t.ok->∀F,t.fu<=F->M94 F t.toT=some t.flt:=Tr.ind fun a b c d e ks ih ok F hF=>by
 rw[Tr.fu] at hF;obtain⟨F,rfl⟩:∃G,F=G+1:=⟨F - 1,by omega⟩
 show w9e (M94 F) F (Tr.mk a b c d e ks).toT=_
 rw[Tr.toT,w9e,y8h F _ (Tr.okX ok),cb8,Tr.flt,q3c];have hk:=(Tr.okks ok).2;have hlen:(q0c.mk a b c d e (Tr.toKs ks)).Kids.length=ks.length:=Tr.toKs_len ks;rw[hlen,if_pos (show((ks.length:Nat):Int)<=9223372036854775807 by omega),show(((ks.length:Nat):Int)).toNat=ks.length by omega]
 have hl:∀m n:Nat,n+m=ks.length->z2v (M94 F) F ⟨a,b,c,d,e,Tr.toKs ks⟩ (some 0) m (n:Int)=some (Tr.flts (ks.drop n)):=by
  intro m
  induction m with
  |zero=>intro n h;rw[z2v,an9 (by omega),Tr.flts]
  |succ m ihm=>
   intro n h;have hn:n<ks.length:=by omega
   have ht:ks[n]∈ks:=be9 _;rw[z2v,q6t hn,cb8,Tr.dec,cb8,ih _ ht (Tr.oks_mem (Tr.okks ok).1 ht) F (by have:=Tr.fu_mem ht;omega),cb8,show((n:Int)+1)=((n+1:Nat):Int) from rfl,ihm (n+1) (by omega),bx9 hn,Tr.flts];by_cases h0:ks[n].flt=0<;>simp[h0]
 have:=hl ks.length 0 (by omega);rw[show((0:Nat):Int)=0 from rfl,bv9] at this;rw[this];by_cases h0:q6j ⟨a,b,c,d,e,Tr.toKs ks⟩=0
 ·simp[h0]
 ·rw[if_neg h0,if_pos (by simp[h0])]
theorem y4u:∀t:Tr,t.ok->∀F,t.fu<=F->∀most:Nat,most<=60->M92 F t.toT (most:Int)=some ((min t.cnt (most+1):Nat):Int):=Tr.ind fun a b c d e ks ih ok F hF most hmost=>by
 rw[Tr.fu] at hF;obtain⟨F,rfl⟩:∃G,F=G+1:=⟨F - 1,by omega⟩
 show w1f (M92 F) F (Tr.mk a b c d e ks).toT (most:Int)=_
 rw[Tr.toT,w1f,q3c,Tr.cnt];have hk:=(Tr.okks ok).2
 have hl:∀fuel n j:Nat,ks.length<fuel+j->j<=ks.length->n<=most+1->j1e (M92 F) F ⟨a,b,c,d,e,Tr.toKs ks⟩ (most:Int) (fun n4=>some n4) fuel (n:Int) (j:Int)=some ((min (n+Tr.cnts (ks.drop j)) (most+1):Nat):Int):=by
  intro fuel
  induction fuel with
  |zero=>intro n j h1 h2;omega
  |succ fuel ihf=>
   intro n j h1 h2 h3;rw[j1e];have hlen:(q0c.mk a b c d e (Tr.toKs ks)).Kids.length=ks.length:=Tr.toKs_len ks;rw[hlen];by_cases hj:j<ks.length
   ·rw[if_pos (decide_eq_true (by omega))];by_cases hn:n<=most
    ·have ht:ks[j]∈ks:=be9 _
     rw[if_pos (decide_eq_true (by omega)),q6t hj,cb8,Tr.dec,cb8,q9i (by omega) (by omega),show((most:Int) - (n:Int))=((most - n:Nat):Int) by omega,
      ih _ ht (Tr.oks_mem (Tr.okks ok).1 ht) F (by have:=Tr.fu_mem ht;omega) (most - n) (by omega),cb8,q9i (by omega) (by omega),q9i (by omega) (by omega)]
     have:=ihf (n+min ks[j].cnt (most - n+1)) (j+1) (by omega) (by omega) (by omega);rw[show((n:Int)+((min ks[j].cnt (most - n+1):Nat):Int))=((n+min ks[j].cnt (most - n+1):Nat):Int) by omega,show((j:Int)+1)=((j+1:Nat):Int) from rfl,this,bx9 hj,Tr.cnts]
     congr 2
     omega
    ·rw[if_neg (by simp;omega)];have:n=most+1:=by omega
     subst this
     congr 2
     omega
   ·rw[if_neg (by simp;omega),an9 (by omega),Tr.cnts]
    congr 2
    omega
 have:=hl F 1 0 (by omega) (by omega) (by omega);rw[bv9] at this;exact this
theorem y3u:∀t:Tr,t.ok->∀F,t.fu<=F->t.cnt<=60->M93 F t.toT=some (t.dep:Int):=Tr.ind fun a b c d e ks ih ok F hF hc=>by
 rw[Tr.fu] at hF;rw[Tr.cnt] at hc;obtain⟨F,rfl⟩:∃G,F=G+1:=⟨F - 1,by omega⟩
 show w0f (M93 F) F (Tr.mk a b c d e ks).toT=_
 have hlen:(q0c.mk a b c d e (Tr.toKs ks)).Kids.length=ks.length:=Tr.toKs_len ks;have hk:=(Tr.okks ok).2;rw[Tr.toT,w0f,q3c,hlen,if_pos (by omega),show(((ks.length:Nat):Int)).toNat=ks.length by omega,Tr.dep]
 have hl:∀m n q:Nat,n+m=ks.length->z3v (M93 F) F ⟨a,b,c,d,e,Tr.toKs ks⟩ (fun n3=>some (w64 (n3+1))) m (n:Int) (q:Int)=some (w64 (((max q (Tr.deps (ks.drop n)):Nat):Int)+1)):=by
  intro m
  induction m with
  |zero=>intro n q h;rw[z3v,an9 (by omega),Tr.deps,Nat.max_zero]
  |succ m ihm=>
   intro n q h;have hn:n<ks.length:=by omega
   have ht:ks[n]∈ks:=be9 _;rw[z3v,q6t hn,cb8,Tr.dec,cb8,ih _ ht (Tr.oks_mem (Tr.okks ok).1 ht) F (by have:=Tr.fu_mem ht;omega) (by have:=Tr.cnt_mem ht;omega),cb8];rw[show(if (ks[n].dep:Int)>(q:Int) then (ks[n].dep:Int) else (q:Int))=((max q ks[n].dep:Nat):Int) by split<;>omega,show((n:Int)+1)=((n+1:Nat):Int) from rfl,ihm (n+1) _ (by omega),bx9 hn,Tr.deps,Nat.max_assoc]
 have:=hl ks.length 0 0 (by omega);rw[bv9] at this;rw[show((0:Nat):Int)=0 from rfl] at this;rw[this];have h1:=v7f ks fun t _=>y0s t;rw[q9i (by omega) (by omega)]
 congr 1
 omega
theorem y8u:∀t:Tr,t.ok->∀F,t.fu<=F->∀lvl:Int,1<=lvl->lvl<=13->∃a b:Int,M86 F t.toT lvl=some (a,b)/\1<=a/\a<=61/\lvl<=b/\b<=13/\(12<b<->12<lvl+t.dep - 1)/\(b<=12->a=min (t.cnt:Int) 61):=Tr.ind fun a b c d e ks ih ok F hF lvl h1 h13=>by
 rw[Tr.fu] at hF;obtain⟨F,rfl⟩:∃G,F=G+1:=⟨F - 1,by omega⟩
 show ∃p q:Int,w2f (M86 F) F (Tr.mk a b c d e ks).toT lvl=some (p,q)/\_
 rw[Tr.toT,w2f,Tr.dep,Tr.cnt];by_cases hq:lvl>12
 ·rw[if_pos (decide_eq_true hq)];exact⟨1,lvl,rfl,by omega,by omega,by omega,by omega,by omega,by omega⟩
 ·rw[if_neg (by simpa using hq),q3c]
  have hl:∀l:List Tr,(∀t,t∈l->t∈ks)->∀n q:Int,1<=n->n<=61->lvl<=q->q<=13->∃p r:Int,z4v (M86 F) F lvl (fun n5 n6=>some (n5,n6)) (Tr.toKs l) n q=some (p,r)/\1<=p/\p<=61/\lvl<=r/\r<=13/\(12<r<->12<q\/12<lvl+Tr.deps l)/\(r<=12->p=min (n+(Tr.cnts l:Nat)) 61):=by
   intro l
   induction l with
   |nil=>
    intro _ n q g1 g2 g3 g4;refine⟨n,q,by simp only[Tr.toKs,z4v],g1,g2,g3,g4,?_,?_⟩
    ·rw[Tr.deps];omega
    ·rw[Tr.cnts];omega
   |cons t r ihr=>
    intro hm n q g1 g2 g3 g4;have ht:=hm t (by simp);obtain⟨p',q',e1,e2,e3,e4,e5,e6,e7⟩:=ih t ht (Tr.oks_mem (Tr.okks ok).1 ht) F (by have:=Tr.fu_mem ht;omega) (lvl+1) (by omega) (by omega);rw[Tr.toKs_map,bo9,z4v,Tr.dec,cb8,q9i (by omega) (by omega),e1,cb8,<-Tr.toKs_map];dsimp only;rw[q9i (by omega) (by omega)];obtain⟨p,s,f1,f2,f3,f4,f5,f6,f7⟩:=ihr (fun u hu=>hm u (by simp[hu])) (if 61<n+p' then 61 else n+p') (if q'>q then q' else q) (by split<;>omega) (by split<;>omega) (by split<;>omega) (by split<;>omega);refine⟨p,s,f1,f2,f3,f4,f5,?_,?_⟩
    ·rw[f6,Tr.deps];split<;>omega
    ·intro hs;have h7:=f7 hs;have hq':¬12<s:=by omega
     rw[f6] at hq';have:q'<=12:=by split at hq'<;>omega
     have h8:=e7 this;rw[h7,Tr.cnts];split<;>omega
  obtain⟨p,r,e1,e2,e3,e4,e5,e6,e7⟩:=hl ks (fun _ h=>h) 1 lvl (by omega) (by omega) (by omega) (by omega);refine⟨p,r,e1,e2,e3,e4,e5,?_,?_⟩
  ·rw[e6];omega
  ·intro h;rw[e7 h];omega
noncomputable def vT(t:Tr):Int:=if 60<t.cnt\/12<t.dep then 3 else t.flt
theorem w0x(t:Tr)(ok:t.ok)(F:Nat)(hF:t.fu<=F):M30 F t.toT=some (vT t):=by
 obtain⟨a,b,e1,e2,e3,e4,e5,e6,e7⟩:=y8u t ok F hF 1 (by omega) (by omega);unfold M30;rw[e1,cb8];dsimp only;unfold vT;by_cases hb:12<b
 ·have hd:=e6.1 hb;rw[if_pos (show 60<t.cnt\/12<t.dep by omega),if_pos (show decide (b>12)=true from decide_eq_true (by omega))];by_cases ha:a>60<;>simp[ha]
 ·have h7:=e7 (by omega);have hd:¬(12<t.dep):=fun h=>hb (e6.2 (by omega));by_cases hc:60<t.cnt
  ·rw[if_pos (decide_eq_true (by omega)),if_pos (Or.inl hc)]
  ·rw[if_neg (by simp;omega),if_neg (by simp;omega),if_neg (by omega),y7u t ok F hF];rfl
theorem y7v(t:Tr)(ok:t.ok)(F:Nat)(hF:t.fu<=F):M38 F t.toT=some (vT t):=by
 have h:=y4u t ok F hF 60 (by omega);rw[show((60:Nat):Int)=60 from rfl] at h;unfold M38 vT;rw[h,cb8];by_cases hc:60<t.cnt
 ·rw[if_pos (decide_eq_true (by omega)),if_pos (Or.inl hc)]
 ·rw[if_neg (by simp;omega),y3u t ok F hF (by omega),cb8];by_cases hd:12<t.dep
  ·rw[if_pos (decide_eq_true (by omega)),if_pos (Or.inr hd)]
  ·rw[if_neg (by simp;omega),if_neg (by omega),y2u t ok F hF];rfl
end Go.Proofs.YtelmfadihfcgnaaGreatDoor
namespace Go.Proofs.YtelmfadihfcgnaaGreatDoor
open Go Go.Pv
set_option maxRecDepth 100000
def okTFact'(f:q4j):Prop:=okS f.Kind/\okS f.Subject/\(∀p,p∈f.Texts->okS p.Name/\okS p.Value)/\f.Texts.length<=maxLen/\(∀p,p∈f.Numbers->okS p.Name)/\f.Numbers.length<=maxLen
def leN(a b:B8):Bool:=Op.bytesLess a b||a==b
def tcF(a:List q1h):List q1h->Nat->Int
 |[],_=>0
 |x::l,n=>if q8k x.Name=false then 8 else if j2i x.Value=false then 2 else if (decide (0<n)&&leN x.Name (a.getD (n - 1) ⟨[],[]⟩).Name)=true then 10 else tcF a l (n+1)
def ncF(a:List q6c):List q6c->Nat->Int
 |[],_=>0
 |x::l,n=>if q8k x.Name=false then 8 else if v2d x.N=true then 9 else if (decide (0<n)&&leN x.Name (a.getD (n - 1) ⟨[],0⟩).Name)=true then 10 else ncF a l (n+1)
theorem z5p{α:Type}{a:List α}{x:α}{l:List α}{n:Nat}(h:a.drop n=x::l):n<a.length/\idx a (n:Int)=some x/\x∈a/\a.drop (n+1)=l:=by
 have hn:n<a.length:=by
  rcases bu9 n a.length with h2|h2
  ·exact h2
  ·rw[an9 h2] at h;cases h
 rw[bx9 hn] at h
 injection h with hx hd
 exact⟨hn,by rw[q5h hn,hx],hx ▸ be9 _,hd⟩
theorem v0a(F:Nat)(f:q4j)(hf:okTFact' f)(k:Option Int):∀(l:List q1h) (n:Nat),f.Texts.drop n=l->z8v F f k l (n:Int)=if tcF f.Texts l n=0 then k else some (tcF f.Texts l n)
 |[],n,_=>by simp[z8v,tcF]
 |x::l,n,h=>by
  obtain⟨hn,hi,hm,hd⟩:=z5p h;have hx:=hf.2.2.1 x hm;rw[z8v,v7a F _ hx.1,cb8,q3c,show((n:Int)+1)=((n+1:Nat):Int) from rfl,v0a F f hf k l (n+1) hd,v7h F _ hx.2,tcF];cases q8k x.Name
  ·simp
  ·simp only[bx8,cp8,if_false,cb8];cases j2i x.Value
   ·simp
   ·simp only[bx8,cp8,if_false];by_cases h0:0<n
    ·rw[if_pos (decide_eq_true (by omega)),j2o (d:=⟨[],[]⟩) h0 (by omega) hf.2.2.2.1,cb8,decide_eq_true h0];simp only[ai8,leN];cases (Op.bytesLess x.Name (f.Texts.getD (n - 1) ⟨[],[]⟩).Name||x.Name==(f.Texts.getD (n - 1) ⟨[],[]⟩).Name)<;>simp
    ·rw[if_neg (by simp;omega),decide_eq_false h0];simp
theorem j9z(F:Nat)(f:q4j)(hf:okTFact' f)(k:Option Int):∀(l:List q6c) (n:Nat),f.Numbers.drop n=l->z7v F f k l (n:Int)=if ncF f.Numbers l n=0 then k else some (ncF f.Numbers l n)
 |[],n,_=>by simp[z7v,ncF]
 |x::l,n,h=>by
  obtain⟨hn,hi,hm,hd⟩:=z5p h;have hx:=hf.2.2.2.2.1 x hm;rw[z7v,v7a F _ hx,cb8,q3c,show((n:Int)+1)=((n+1:Nat):Int) from rfl,j9z F f hf k l (n+1) hd,w6x,ncF];cases q8k x.Name
  ·simp
  ·simp only[bx8,cp8,if_false,cb8];cases v2d x.N
   ·simp only[bx8,bz8,cp8,if_false];by_cases h0:0<n
    ·rw[if_pos (decide_eq_true (by omega)),j2o (d:=⟨[],0⟩) h0 (by omega) hf.2.2.2.2.2,cb8,decide_eq_true h0];simp only[ai8,leN];cases (Op.bytesLess x.Name (f.Numbers.getD (n - 1) ⟨[],0⟩).Name||x.Name==(f.Numbers.getD (n - 1) ⟨[],0⟩).Name)<;>simp
    ·rw[if_neg (by simp;omega),decide_eq_false h0];simp
   ·simp
def vF(f:q4j):Int:=if q8k f.Kind=false then 8 else if j2i f.Subject=false then 2 else if 30<f.Texts.length then 3 else if tcF f.Texts f.Texts 0=0 then (if 30<f.Numbers.length then 3 else ncF f.Numbers f.Numbers 0) else tcF f.Texts f.Texts 0
theorem y4v(F:Nat)(f:q4j)(hf:okTFact' f):M43 F f=some (vF f):=by
 unfold M43 vF;have h1:=fun k=>v0a F f hf k f.Texts 0 rfl;have h2:=j9z F f hf (some 0) f.Numbers 0 rfl;rw[show((0:Nat):Int)=0 from rfl] at h1 h2;rw[v7a F _ hf.1,v7h F _ hf.2.1];simp only[q3c,h1,h2,cb8,show decide (((f.Texts.length:Nat):Int)>30)=decide (30<f.Texts.length) from decide_eq_decide.2 (by omega),show decide (((f.Numbers.length:Nat):Int)>30)=decide (30<f.Numbers.length) from decide_eq_decide.2 (by omega)];by_cases a1:q8k f.Kind=true<;>by_cases a2:j2i f.Subject=true<;>by_cases a3:30<f.Texts.length<;>by_cases a4:tcF f.Texts f.Texts 0=0<;>by_cases a5:30<f.Numbers.length<;>by_cases a6:ncF f.Numbers f.Numbers 0=0<;>simp[a1,a2,a3,a4,a5,a6]
def fT(nm:B8):List q1h->Bool×B8->Bool×B8
 |[],p=>p
 |x::l,p=>if (x.Name==nm)=true then fT nm l (true,x.Value) else fT nm l p
def fN(nm:B8):List q6c->Bool×Int->Bool×Int
 |[],p=>p
 |x::l,p=>if (x.Name==nm)=true then fN nm l (true,x.N) else fN nm l p
def fld(f:q4j)(nm:B8):q2a:=⟨(fT nm f.Texts (false,[])).1,(fN nm f.Numbers (false,0)).1,(fT nm f.Texts (false,[])).2,(fN nm f.Numbers (false,0)).2⟩
def zV:q0a:=⟨false,false,[],0⟩
def gV(m:List (B8×q0a))(nm:B8):q0a:=(q7f m nm).getD zV
def vlT:List q1h->List (B8×q0a)->List (B8×q0a)
 |[],m=>m
 |x::l,m=>vlT l (q0m m x.Name ⟨true,(gV m x.Name).hasNumber,x.Value,(gV m x.Name).number⟩)
def vlN:List q6c->List (B8×q0a)->List (B8×q0a)
 |[],m=>m
 |x::l,m=>vlN l (q0m m x.Name ⟨(gV m x.Name).hasText,true,(gV m x.Name).text,x.N⟩)
def j4f(f:q4j):q1b:=⟨vlN f.Numbers (vlT f.Texts []),none⟩
theorem w3v(m:List (B8×q0a))(k nm:B8)(v:q0a):gV (q0m m k v) nm=if k=nm then v else gV m nm:=by
 unfold gV;rw[q3m];split<;>rfl
theorem v5t(nm:B8):∀(l:List q1h) (m:List (B8×q0a)),gV (vlT l m) nm=⟨(fT nm l ((gV m nm).hasText,(gV m nm).text)).1,(gV m nm).hasNumber,(fT nm l ((gV m nm).hasText,(gV m nm).text)).2,(gV m nm).number⟩
 |[],m=>by rw[vlT,fT]
 |x::l,m=>by
  rw[vlT,v5t nm l,w3v,fT];by_cases h:x.Name=nm
  ·subst h;rw[if_pos rfl,if_pos (by simp)]
  ·rw[if_neg h,if_neg (by simp[h])]
theorem v6t(nm:B8):∀(l:List q6c) (m:List (B8×q0a)),gV (vlN l m) nm=⟨(gV m nm).hasText,(fN nm l ((gV m nm).hasNumber,(gV m nm).number)).1,(gV m nm).text,(fN nm l ((gV m nm).hasNumber,(gV m nm).number)).2⟩
 |[],m=>by rw[vlN,fN]
 |x::l,m=>by
  rw[vlN,v6t nm l,w3v,fN];by_cases h:x.Name=nm
  ·subst h;rw[if_pos rfl,if_pos (by simp)]
  ·rw[if_neg h,if_neg (by simp[h])]
theorem w5h(f:q4j)(nm:B8):gV (j4f f).by_ nm=⟨(fld f nm).isText,(fld f nm).isNumber,(fld f nm).text,(fld f nm).number⟩:=by
 unfold j4f fld;dsimp only;rw[v6t,v5t];rfl
theorem j8z(F:Nat)(k:List (B8×q0a)->Option q1b):∀(l:List q1h) m,j7e F k l m=k (vlT l m)
 |[],m=>rfl
 |x::l,m=>by rw[j7e,j8z F k l];rfl
theorem j7z(F:Nat)(k:List (B8×q0a)->Option q1b):∀(l:List q6c) m,j6e F k l m=k (vlN l m)
 |[],m=>rfl
 |x::l,m=>by rw[j6e,j7z F k l];rfl
theorem y3v(F:Nat)(f:q4j):M44 F f=some (j4f f):=by
 unfold M44;simp only[q3c,j8z,j7z];rfl
end Go.Proofs.YtelmfadihfcgnaaGreatDoor
namespace Go.Proofs.YtelmfadihfcgnaaGreatDoor
open Go Go.Pv
set_option maxRecDepth 100000
noncomputable section
mutual
def Tr.cd:Tr->KV
 | .mk k nm tx op n ks=>
  if k=2 then mkK 147 q8f ⟨nm,tx⟩ else if k=3 then mkK 148 q0e ⟨nm,tx⟩ else if k=4 then mkK 150 q9f ⟨nm⟩
  else if k=5 then mkK 152 q9d ⟨nm,op,n⟩ else if k=6 then mkK 154 q7g ⟨(Tr.cds ks).headD ⟨0,.con (.bool true)⟩⟩ else if k=7 then mkK 156 q1g ⟨Tr.cds ks⟩
  else if k=8 then mkK 157 q0g ⟨Tr.cds ks⟩ else mkK 159 q8g ⟨⟩
def Tr.cds:List Tr->List KV
 |[]=>[]
 |t::r=>t.cd::Tr.cds r
end
end
theorem q1n:∀{ks:List Tr} {t:Tr},Tr.flts ks=0->t∈ks->t.flt=0
 |u::r,t,h,hm=>by
  rw[Tr.flts] at h;by_cases h0:u.flt=0
  ·rw[if_pos h0] at h;rcases at8.1 hm with e|hm
   ·rw[e];exact h0
   ·exact q1n h hm
  ·rw[if_neg h0] at h;exact absurd h h0
theorem q2r{a b c d e ks}(h:(Tr.mk a b c d e ks).flt=0):q6j ⟨a,b,c,d,e,Tr.toKs ks⟩=0/\Tr.flts ks=0:=by
 rw[Tr.flt] at h;by_cases h0:q6j ⟨a,b,c,d,e,Tr.toKs ks⟩=0
 ·rw[if_pos h0] at h;exact⟨h0,h⟩
 ·rw[if_neg h0] at h;exact absurd h h0
theorem q2y{x:q0c}(h:q6j x=0):1<=x.Kind/\x.Kind<=8:=by
 unfold q6j at h;by_cases hk:x.Kind<1\/8<x.Kind
 ·rw[if_pos hk] at h;cases h
 ·omega
theorem z7n{x:q0c}(h:q6j x=0)(h6:x.Kind=6):x.Kids.length=1:=by
 unfold q6j at h;rw[if_neg (by omega)] at h;by_cases h1:x.Kids.length=1
 ·exact h1
 ·have:(x.Kids.length==1)=false:=beq_false_of_ne h1;rw[if_pos h6,this] at h;simp at h
theorem w9w:∀t:Tr,t.ok->t.flt=0->t.cnt<=60->∀F,t.fu<=F->M32 F t.toT=some t.cd:=Tr.ind fun k nm tx op n ks ih ok hz hc F hF=>by
 rw[Tr.fu] at hF;rw[Tr.cnt] at hc;obtain⟨hnode,hfl⟩:=q2r hz;obtain⟨F,rfl⟩:∃G,F=G+1:=⟨F - 1,by omega⟩
 show w6f (M32 F) F (Tr.mk k nm tx op n ks).toT=_
 have hl:∀(kk:List KV->Option KV) (l:List Tr),(∀t,t∈l->t∈ks)->∀acc:List KV,acc.length+l.length<=60->z1w (M32 F) F kk (Tr.toKs l) acc=kk (acc++Tr.cds l):=by
  intro kk l
  induction l with
  |nil=>intro _ acc _;simp only[Tr.toKs,z1w,Tr.cds,aa8]
  |cons t r ihr=>
   intro hm acc hlen;simp only[ca9] at hlen;have ht:=hm t (by simp)
   rw[Tr.toKs_map,bo9,z1w,Tr.dec,cb8,ih t ht (Tr.oks_mem (Tr.okks ok).1 ht) (q1n hfl ht) (by have:=Tr.cnt_mem ht;omega) F (by have:=Tr.fu_mem ht;omega),cb8,<-Tr.toKs_map,
    if_pos (by simp;omega),ihr (fun u hu=>hm u (by simp[hu])) _ (by simp;omega),Tr.cds]
   simp
 have hlen:=v2k ks;rw[Tr.toT,w6f,q3c,hl _ ks (fun _ h=>h) [] (by simp;omega),Tr.cd,ad8];dsimp only;have b1:∀q:Int,((k==q)=true)<->k=q:=fun q=>beq_iff_eq;simp only[b1];by_cases h2:k=2
 ·rw[if_pos h2,if_pos h2]
 rw[if_neg h2,if_neg h2];by_cases h2:k=3
 ·rw[if_pos h2,if_pos h2]
 rw[if_neg h2,if_neg h2];by_cases h2:k=4
 ·rw[if_pos h2,if_pos h2]
 rw[if_neg h2,if_neg h2];by_cases h2:k=5
 ·rw[if_pos h2,if_pos h2]
 rw[if_neg h2,if_neg h2];by_cases h2:k=6
 ·rw[if_pos h2,if_pos h2];have h1:ks.length=1:=by rw[<-z7n hnode h2];exact(Tr.toKs_len ks).symm
  match ks,h1 with
  |[t],_=>simp only[Tr.cds];rfl
 rw[if_neg h2,if_neg h2];by_cases h2:k=7
 ·rw[if_pos h2,if_pos h2]
 rw[if_neg h2,if_neg h2];by_cases h2:k=8
 ·rw[if_pos h2,if_pos h2]
 rw[if_neg h2,if_neg h2]
def beg(s w:B8):Bool:=decide (w.length<=s.length)&&(s.take w.length==w)
def w0w(a op b:Int):Bool:=if op=1 then decide (a<b) else if op=2 then decide (a<=b) else if op=3 then a==b else if op=4 then decide (a>=b) else decide (a>b)
def txT(k:Int)(s:B8)(l:List B8):Bool:=l.any fun w=>w==s||(k==3)&&beg s w
def z5w(k op n:Int)(tx:List B8)(x:q2a):Bool:=if k=4 then x.isText||x.isNumber else if k=5 then x.isNumber&&w0w x.number op n else x.isText&&txT k x.text tx
noncomputable section
mutual
def Tr.tru(f:q4j):Tr->Bool
 | .mk k nm tx op n ks=>if k=1 then true else if k=6 then !(Tr.allT f ks) else if k=7 then Tr.allT f ks else if k=8 then Tr.anyT f ks else z5w k op n tx (fld f nm)
def Tr.allT(f:q4j):List Tr->Bool
 |[]=>true
 |t::r=>Tr.tru f t&&Tr.allT f r
def Tr.anyT(f:q4j):List Tr->Bool
 |[]=>false
 |t::r=>Tr.tru f t||Tr.anyT f r
end
end
theorem y9g(F:Nat)(op a b:Int):y2x F op a b=some (w0w a op b):=by
 unfold y2x w0w;simp only[beq_iff_eq]
 repeat (split;· rfl)
 rfl
theorem w7f(F:Nat)(a op b:Int):y2w F a op b=some (w0w a op b):=by
 unfold y2w w0w;simp only[beq_iff_eq]
 repeat (split;· rfl)
 rfl
theorem w9f(F:Nat)(s w:B8):y1x F s w=some (beg s w):=by
 unfold y1x beg;by_cases h:w.length<=s.length
 ·rw[if_pos (decide_eq_true (by omega)),if_pos ⟨by omega,by omega⟩,decide_eq_true h,show((w.length:Int)).toNat=w.length by omega];rfl
 ·rw[if_neg (by simp;omega),decide_eq_false h];rfl
theorem y3g(F:Nat)(s w:B8):M190 F s w=some (beg s w):=w9f F s w
theorem w0g(F:Nat)(s w:B8):y9j F s w=some (beg s w):=by unfold y9j;rw[y3g];rfl
theorem j6l(F:Nat)(x:q0c)(v:q2a)(hl:x.Texts.length<=9223372036854775807)(hv:v.isText=true):∀(fuel j:Nat),x.Texts.length<fuel+j->j<=x.Texts.length->z3g F x v (some false) fuel (j:Int)=some (txT x.Kind v.text (x.Texts.drop j))
 |0,j,h1,h2=>by omega
 |fuel+1,j,h1,h2=>by
  rw[z3g];by_cases hj:j<x.Texts.length
  ·rw[if_pos (decide_eq_true (by omega)),if_pos hv,q3c,q5h hj,cb8];dsimp only;rw[q9i (by omega) (by omega),show((j:Int)+1)=((j+1:Nat):Int) from rfl,j6l F x v hl hv fuel (j+1) (by omega) (by omega),bx9 hj];simp only[txT,cj9,cb8,w9f];cases h3:(x.Texts[j]==v.text)
   ·cases h4:(x.Kind==3)
    ·simp
    ·cases h5:beg v.text x.Texts[j]<;>simp
   ·simp
  ·rw[if_neg (by simp;omega),an9 (by omega)];rfl
theorem y5i(F:Nat)(x:q0c)(v:q2a)(hl:x.Texts.length<=9223372036854775807)(hF:x.Texts.length<F):y1k F x v=some (z5w x.Kind x.Op x.N x.Texts v):=by
 unfold y1k z5w;simp only[beq_iff_eq];by_cases h4:x.Kind=4
 ·rw[if_pos h4,if_pos h4];cases v.isText<;>rfl
 ·rw[if_neg h4,if_neg h4];by_cases h5:x.Kind=5
  ·rw[if_pos h5,if_pos h5,y9g];cases v.isNumber<;>rfl
  ·rw[if_neg h5,if_neg h5,q3c];cases hv:v.isText
   ·obtain⟨G,rfl⟩:∃G,F=G+1:=⟨F - 1,by omega⟩;rw[z3g,hv];simp
   ·have:=j6l F x v hl hv F 0 (by omega) (by omega);rw[show((0:Nat):Int)=0 from rfl,bv9] at this;rw[this];rfl
end Go.Proofs.YtelmfadihfcgnaaGreatDoor
namespace Go.Proofs.YtelmfadihfcgnaaGreatDoor
open Go Go.Pv
set_option maxRecDepth 100000
section
variable{τ σ:Type}
theorem q9k{enc:τ->List V}(inj:∀a b,enc a=enc b->a=b){T:Nat}{y:τ}:z4w enc T (mkK T enc y)=some y:=w3y inj rfl rfl
theorem q2c{enc:τ->List V}{enc':σ->List V}{T T':Nat}{y:τ}(h:T≠T'):z4w enc' T' (mkK T enc y)=none:=w2y (x:=mkK T enc y) h
end
theorem w1v{a b:Int}(h:iV a=iV b):a=b:=by injection h with h;injection h
theorem v9z(a b:q7k)(h:q8f a=q8f b):a=b:=by
 obtain⟨a1,a2⟩:=a;obtain⟨b1,b2⟩:=b;simp only[q8f,cd8,and_true] at h;have e1:=j5i h.1;have e2:a2=b2:=j5n (by injection h.2);subst e1 e2;rfl
theorem z7r(a b:q2i)(h:q0e a=q0e b):a=b:=by
 obtain⟨a1,a2⟩:=a;obtain⟨b1,b2⟩:=b;simp only[q0e,cd8,and_true] at h;have e1:=j5i h.1;have e2:a2=b2:=j5n (by injection h.2);subst e1 e2;rfl
theorem v4e(a b:q8j)(h:q9f a=q9f b):a=b:=by
 obtain⟨a1⟩:=a;obtain⟨b1⟩:=b;simp only[q9f,cd8,and_true] at h;have e1:=j5i h;subst e1;rfl
theorem z6r(a b:q1i)(h:q9d a=q9d b):a=b:=by
 obtain⟨a1,a2,a3⟩:=a;obtain⟨b1,b2,b3⟩:=b;simp only[q9d,cd8,and_true] at h;have e1:=j5i h.1;have e2:=w1v h.2.1;have e3:=w1v h.2.2;subst e1 e2 e3;rfl
theorem KV.enc_inj{a b:KV}(h:a.enc=b.enc):a=b:=by
 obtain⟨a1,a2⟩:=a;obtain⟨b1,b2⟩:=b;simp only[KV.enc,cd8,and_true] at h
 injection h with h1 h2
 subst h1 h2;rfl
theorem v1k{a b:List KV}(h:a.map KV.enc=b.map KV.enc):a=b:=List.map_inj_right (fun x y h=>KV.enc_inj h) |>.1 h
theorem v3e(a b:q7j)(h:q7g a=q7g b):a=b:=by
 obtain⟨a1⟩:=a;obtain⟨b1⟩:=b;have e1:a1=b1:=KV.enc_inj h;subst e1;rfl
theorem v6e(a b:q0k)(h:q1g a=q1g b):a=b:=by
 obtain⟨a1⟩:=a;obtain⟨b1⟩:=b;simp only[q1g,cd8,and_true] at h;have e1:a1=b1:=v1k (by injection h);subst e1;rfl
theorem v5e(a b:q9j)(h:q0g a=q0g b):a=b:=by
 obtain⟨a1⟩:=a;obtain⟨b1⟩:=b;simp only[q0g,cd8,and_true] at h;have e1:a1=b1:=v1k (by injection h);subst e1;rfl
theorem v5k(a b:q3j)(h:q8g a=q8g b):a=b:=rfl
def tv(b:Bool):Int:=if b=true then 1 else 2
theorem q0t(F:Nat)(b:Bool):M72 F b=some (tv b):=by cases b<;>rfl
theorem y3e{p:Bool}{n:Nat}:(if p=true then some ((n:Nat):Int) else some (-1)).bind (fun y3:Int=>some (decide (y3>=0)))=some p:=by
 cases p
 ·rfl
 ·simp
theorem j6z(F:Nat)(l:List B8)(s:B8):M74 F l s=some (l.any fun w=>s==w):=by
 unfold M74 M121;have h:=y6y (g:=z1m F s (some (-1))) (fun w=>s==w) (fun _=>rfl) (fun x l n=>by rw[z1m]) l 0;rw[show((0:Nat):Int)=0 from rfl] at h;rw[q3c,h];exact y3e
theorem v8a(F:Nat)(l:List B8)(b c:Bool)(s:B8)(n:Int):v9a F l b c s n=some (l.any fun w=>beg s w):=by
 unfold v9a v5n;have h:=y6y (g:=q6u F b c s n (some (-1))) (fun w=>beg s w) (fun _=>rfl) (fun x l m=>by rw[q6u,y7z,w0g,cb8,cb8]) l 0;rw[show((0:Nat):Int)=0 from rfl] at h;rw[q3c,h];exact y3e
theorem w1p(s:B8):beg s s=true:=by simp[beg]
theorem y9x(s:B8)(l:List B8):txT 3 s l=l.any fun w=>beg s w:=by
 unfold txT
 congr 1
 funext w
 by_cases h:w=s
 ·subst h;simp[w1p]
 ·rw[beq_false_of_ne h];rfl
theorem y0y(s:B8)(l:List B8):txT 2 s l=l.any fun w=>s==w:=by
 unfold txT
 congr 1
 funext w
 rw[beqC];simp
section
variable(F:Nat)(f:q4j)(nm:B8)
theorem j7q:w1x F (j4f f) nm=some (⟨(fld f nm).isText,(fld f nm).isNumber,(fld f nm).text,(fld f nm).number⟩,true):=by
 rw[<-w5h];rfl
theorem y7f(op n:Int)(tx:List B8):y8f F ⟨nm,tx⟩ (j4f f)=some (tv (z5w 2 op n tx (fld f nm))):=by
 unfold y8f;rw[j7q,cb8];dsimp only;rw[j6z,q0t,cb8,q0t];unfold z5w;rw[y0y];cases (fld f nm).isText<;>rfl
theorem y5f(op n:Int)(tx:List B8):y6f F ⟨nm,tx⟩ (j4f f)=some (tv (z5w 3 op n tx (fld f nm))):=by
 unfold y6f;rw[j7q,cb8];dsimp only;rw[v8a,q0t,cb8,q0t];unfold z5w;rw[y9x];cases (fld f nm).isText<;>rfl
theorem y3f(op n:Int)(tx:List B8):y4f F ⟨nm⟩ (j4f f)=some (tv (z5w 4 op n tx (fld f nm))):=by
 unfold y4f;rw[j7q,cb8];dsimp only;rw[q0t,q0t];unfold z5w;cases (fld f nm).isText<;>rfl
theorem y1f(op n:Int)(tx:List B8):y2f F ⟨nm,op,n⟩ (j4f f)=some (tv (z5w 5 op n tx (fld f nm))):=by
 unfold y2f;rw[j7q,cb8];dsimp only;rw[w7f,q0t,cb8,q0t];unfold z5w;cases (fld f nm).isNumber<;>rfl
end
theorem y0c(f:q4j):∀t:Tr,t.ok->t.flt=0->∀F,t.fu<=F->q8m F t.cd (j4f f)=some (tv (t.tru f)):=Tr.ind fun k nm tx op n ks ih ok hz F hF=>by
 rw[Tr.fu] at hF;obtain⟨hnode,hfl⟩:=q2r hz;obtain⟨F,rfl⟩:∃G,F=G+1:=⟨F - 1,by omega⟩
 show q3u (q8m F) F (Tr.mk k nm tx op n ks).cd (j4f f)=_
 have hkid:∀t,t∈ks->q8m F t.cd (j4f f)=some (tv (t.tru f)):=fun t ht=>ih t ht (Tr.oks_mem (Tr.okks ok).1 ht) (q1n hfl ht) F (by have:=Tr.fu_mem ht;omega);have hkk:=q2y hnode;dsimp only at hkk;have hk':k=1\/k=2\/k=3\/k=4\/k=5\/k=6\/k=7\/k=8:=by omega
 rw[Tr.cd,Tr.tru]
 have hall:∀l:List Tr,(∀t,t∈l->t∈ks)->q5u (q8m F) F (j4f f) (fun n4=>some n4) (Tr.cds l) 1=some (tv (Tr.allT f l)):=by
  intro l
  induction l with
  |nil=>intro _;rw[Tr.cds,Tr.allT];rfl
  |cons t r ihr=>
   intro hm;rw[Tr.cds,q5u,hkid t (hm t (by simp)),cb8,q3c,Tr.allT];cases t.tru f
   ·rfl
   ·exact ihr fun u hu=>hm u (by simp[hu])
 have hany:∀l:List Tr,(∀t,t∈l->t∈ks)->q4u (q8m F) F (j4f f) (fun n4=>some n4) (Tr.cds l) 2=some (tv (Tr.anyT f l)):=by
  intro l
  induction l with
  |nil=>intro _;rw[Tr.cds,Tr.anyT];rfl
  |cons t r ihr=>
   intro hm;rw[Tr.cds,q4u,hkid t (hm t (by simp)),cb8,q3c,Tr.anyT];cases t.tru f
   ·exact ihr fun u hu=>hm u (by simp[hu])
   ·rfl
 unfold q3u;rcases hk' with e|e|e|e|e|e|e|e
 ·subst e;simp only[show ¬(1:Int)=2 by decide,show ¬(1:Int)=3 by decide,show ¬(1:Int)=4 by decide,show ¬(1:Int)=5 by decide,show ¬(1:Int)=6 by decide,show ¬(1:Int)=7 by decide,show ¬(1:Int)=8 by decide,if_false];rw[q2c (by decide),q2c (by decide),q2c (by decide),q2c (by decide),q2c (by decide),q2c (by decide),q2c (by decide),q9k v5k];rfl
 ·subst e;rw[if_pos rfl,q9k v9z];exact y7f F f nm op n tx
 ·subst e;rw[if_neg (by decide),if_pos rfl,q2c (by decide),q9k z7r];exact y5f F f nm op n tx
 ·subst e;rw[if_neg (by decide),if_neg (by decide),if_pos rfl,q2c (by decide),q2c (by decide),q9k v4e];exact y3f F f nm op n tx
 ·subst e;rw[if_neg (by decide),if_neg (by decide),if_neg (by decide),if_pos rfl,q2c (by decide),q2c (by decide),q2c (by decide),q9k z6r];exact y1f F f nm op n tx
 ·subst e;rw[if_neg (by decide),if_neg (by decide),if_neg (by decide),if_neg (by decide),if_pos rfl,q2c (by decide),q2c (by decide),q2c (by decide),q2c (by decide),q9k v3e];have h1:ks.length=1:=by rw[<-z7n hnode rfl];exact(Tr.toKs_len ks).symm
  match ks,h1,hkid with
  |[t],_,hkid=>
   show y0f (q8m F) F ⟨(Tr.cds [t]).headD _⟩ (j4f f)=_
   rw[Tr.cds,cl9,y0f,hkid t (by simp),cb8,if_neg (by decide),if_pos rfl,Tr.allT,Tr.allT];cases t.tru f<;>rfl
 ·subst e;rw[if_neg (by decide),if_neg (by decide),if_neg (by decide),if_neg (by decide),if_neg (by decide),if_pos rfl,q2c (by decide),q2c (by decide),q2c (by decide),q2c (by decide),q2c (by decide),q9k v6e];exact hall ks fun _ h=>h
 ·subst e;rw[if_neg (by decide),if_neg (by decide),if_neg (by decide),if_neg (by decide),if_neg (by decide),if_neg (by decide),if_pos rfl,q2c (by decide),q2c (by decide),q2c (by decide),q2c (by decide),q2c (by decide),q2c (by decide),q9k v5e];exact hany ks fun _ h=>h
theorem cd_t:∀t:Tr,t.cd.t∈([147,148,150,152,154,156,157,159]:List Nat)
 | .mk k nm tx op n ks=>by
  rw[Tr.cd]
  repeat (split;· simp[mkK])
  simp[mkK]
theorem v1c{t:Tr}(h:vT t=0):t.flt=0/\t.cnt<=60:=by
 unfold vT at h;by_cases h0:60<t.cnt\/12<t.dep
 ·rw[if_pos h0] at h;cases h
 ·rw[if_neg h0] at h;exact⟨h,by omega⟩
noncomputable def y1c(t:Tr)(f:q4j):Bool×Int:=if vT t=0 then (if vF f=0 then (t.tru f,0) else (false,vF f)) else (false,vT t)
theorem y4x(t:Tr)(ok:t.ok)(f:q4j)(hf:okTFact' f)(F:Nat)(hF:t.fu<=F):M12 F t.toT f=some (y1c t f):=by
 unfold M12 y1c;rw[w0x t ok F hF,cb8,y4v F f hf,cb8];by_cases h1:vT t=0
 ·rw[if_neg (by simp[h1]),if_pos h1];by_cases h2:vF f=0
  ·have:=v1c h1;rw[if_neg (by simp[h2]),if_pos h2,w9w t ok this.1 this.2 F hF,cb8,y3v,cb8,if_pos (cd_t t),y0c f t ok this.1 F hF];cases t.tru f<;>rfl
  ·rw[if_pos (by simp[h2]),if_neg h2]
 ·rw[if_pos (by simp[h1]),if_neg h1]
end Go.Proofs.YtelmfadihfcgnaaGreatDoor
namespace Go.Pv
abbrev Txt:=B8
structure w6e(is bg:List Txt)(u v:Txt):Prop where
 eq:∀e,e∈is->(u=e<->v=e)
 pre:∀b,b∈bg->(b <+: u<->b <+: v)
def okT(s:Txt):Prop:=s.length<=1000/\∀c,c∈s->32<=c.toNat/\c.toNat<=126
structure q8p(is bg:List Txt)(p t:Txt):Prop where
 pre:p <+: t
 ok:okT t
 not:t ∉ is
 no:∀b,b∈bg->p.length<b.length->¬b <+: t
theorem y6b(bg:List Txt)(w:Txt):∃p,(p∈bg\/p=[])/\p <+: w/\∀b,b∈bg->b <+: w->b.length<=p.length:=by
 induction bg with
 |nil=>exact⟨[],.inr rfl,List.nil_prefix,fun b hb=>by simp at hb⟩
 |cons b r ih=>
  obtain⟨p,h1,h2,h3⟩:=ih;by_cases h:b <+: w/\p.length<b.length
  ·refine⟨b,.inl (by simp),h.1,fun q hq hw=>?_⟩;rcases at8.1 hq with e|hq
   ·rw[e];exact ae8 _
   ·have:=h3 q hq hw;omega
  ·refine⟨p,h1.imp (fun h=>by simp[h]) id,h2,fun q hq hw=>?_⟩;rcases at8.1 hq with e|hq
   ·subst e;rcases bu9 p.length q.length with h4|h4
    ·exact absurd ⟨hw,h4⟩ h
    ·exact h4
   ·exact h3 q hq hw
theorem v8i{is bg out:List Txt}(hi:∀e,e∈is->e∈out)(hf:∀p,(p∈bg\/p=[])->(∃t,q8p is bg p t/\t∈out)\/∀t,¬q8p is bg p t)(w:Txt)(hw:okT w):
  ∃t,t∈out/\w6e is bg t w:=by
 by_cases hm:w∈is
 ·exact⟨w,hi w hm,⟨fun _ _=>Iff.rfl,fun _ _=>Iff.rfl⟩⟩
 obtain⟨p,h1,h2,h3⟩:=y6b bg w;have hF:q8p is bg p w:=⟨h2,hw,hm,fun b hb hl hp=>by have:=h3 b hb hp;omega⟩;rcases hf p h1 with ⟨t,ht,hto⟩|hno
 ·refine⟨t,hto,⟨fun e he=>⟨fun h=>absurd (h ▸ he) ht.not,fun h=>absurd (h ▸ he) hm⟩,fun b hb=>⟨fun hp=>?_,fun hp=>?_⟩⟩⟩
  ·have hl:b.length<=p.length:=aw9 fun h=>ht.no b hb h hp;exact(List.prefix_of_prefix_length_le hp ht.pre hl).trans h2
  ·exact(List.prefix_of_prefix_length_le hp h2 (h3 b hb hp)).trans ht.pre
 ·exact absurd hF (hno w)
structure v2h(ns:List Int)(x y:Int):Prop where
 lt:∀n,n∈ns->(x<n<->y<n)
 eq:∀n,n∈ns->(x=n<->y=n)
def okN(x:Int):Prop:=-1000000000000<=x/\x<=1000000000000
theorem least(ns:List Int)(x:Int):(∃n,n∈ns/\x<=n/\∀m,m∈ns->x<=m->n<=m)\/∀n,n∈ns->n<x:=by
 induction ns with
 |nil=>exact .inr fun n h=>by simp at h
 |cons a r ih=>
  rcases ih with ⟨n,h1,h2,h3⟩|h
  ·by_cases h:x<=a/\a<n
   ·refine .inl ⟨a,by simp,h.1,fun m hm hx=>?_⟩;rcases at8.1 hm with e|hm
    ·omega
    ·have:=h3 m hm hx;omega
   ·refine .inl ⟨n,by simp[h1],h2,fun m hm hx=>?_⟩;rcases at8.1 hm with e|hm
    ·omega
    ·exact h3 m hm hx
  ·by_cases hx:x<=a
   ·refine .inl ⟨a,by simp,hx,fun m hm hx=>?_⟩;rcases at8.1 hm with e|hm
    ·omega
    ·have:=h m hm;omega
   ·refine .inr fun n hn=>?_;rcases at8.1 hn with e|hn
    ·omega
    ·exact h n hn
theorem w7m(ns:List Int)(h:ns≠[]):∃m,m∈ns/\∀n,n∈ns->n<=m:=by
 induction ns with
 |nil=>exact absurd rfl h
 |cons a r ih=>
  by_cases hr:r=[]
  ·subst hr;exact⟨a,by simp,fun n hn=>by simp at hn;omega⟩
  ·obtain⟨m,h1,h2⟩:=ih hr;by_cases hm:m<a
   ·refine⟨a,by simp,fun n hn=>?_⟩;rcases at8.1 hn with e|hn
    ·omega
    ·have:=h2 n hn;omega
   ·refine⟨m,by simp[h1],fun n hn=>?_⟩;rcases at8.1 hn with e|hn
    ·omega
    ·exact h2 n hn
theorem v6v{ns out:List Int}(h0:∃z,z∈out)(h1:∀n,n∈ns->n∈out)(h2:∀n,n∈ns->okN (n - 1)->n - 1∈out)(h3:∀m,m∈ns->(∀n,n∈ns->n<=m)->okN (m+1)->m+1∈out)(hns:∀n,n∈ns->okN n)(x:Int)(hx:okN x):
  ∃y,y∈out/\v2h ns y x:=by
 rcases least ns x with ⟨n,a1,a2,a3⟩|h
 ·by_cases e:x=n
  ·exact⟨n,h1 n a1,by subst e;exact⟨fun _ _=>Iff.rfl,fun _ _=>Iff.rfl⟩⟩
  ·have hk:=hns n a1;unfold okN at hk hx;refine⟨n - 1,h2 n a1 ⟨by omega,by omega⟩,⟨fun m hm=>?_,fun m hm=>?_⟩⟩
   ·have:=a3 m hm;omega
   ·have:=a3 m hm;omega
 ·by_cases hn:ns=[]
  ·obtain⟨z,hz⟩:=h0;exact⟨z,hz,by subst hn;exact⟨fun n h=>by simp at h,fun n h=>by simp at h⟩⟩
  ·obtain⟨m,b1,b2⟩:=w7m ns hn;have b3:=h m b1;have b4:=hns m b1;unfold okN at hx b4;refine⟨m+1,h3 m b1 b2 ⟨by omega,by omega⟩,⟨fun n hn=>?_,fun n hn=>?_⟩⟩
   ·have:=b2 n hn;have:=h n hn;omega
   ·have:=b2 n hn;have:=h n hn;omega
section
variable{α:Type}
def stl(s:Txt->Option α)(n:Txt)(x:α):Txt->Option α:=fun m=>if m=n then some x else s m
def ext(s s':Txt->Option α):Prop:=∀n x,s n=some x->s' n=some x
def j3f(s:Txt->Option α)(ns:List Txt)(a:Txt->α):Txt->Option α:=fun m=>match s m with|some x=>some x|none=>if m∈ns then some (a m) else none
def fnd? (P:(Txt->Option α)->Option Bool) (can:Txt->List α):List Txt->(Txt->Option α)->Option (Txt->Option α)
 |[],s=>if P s=some true then some s else none
 |n::r,s=>match P s with
  |some true=>some s
  |some false=>none
  |none=>(can n).findSome? fun x=>fnd? P can r (stl s n x)
variable{P:(Txt->Option α)->Option Bool}{can:Txt->List α}
theorem y0a{s:Txt->Option α}{n:Txt}{x:α}(h:s n=none):ext s (stl s n x):=fun m y hm=>by
 unfold stl;by_cases e:m=n
 ·subst e;rw[h] at hm;cases hm
 ·rw[if_neg e];exact hm
theorem j2b:∀(ns:List Txt) (s s':Txt->Option α),ns.Nodup->(∀n,n∈ns->s n=none)->fnd? P can ns s=some s'->
  P s'=some true/\ext s s'/\∀m x,s' m=some x->s m=some x\/(m∈ns/\x∈can m)
 |[],s,s',_,_,h=>by
  rw[fnd?] at h;by_cases hp:P s=some true
  ·rw[if_pos hp] at h;cases h;exact⟨hp,fun _ _ h=>h,fun _ _ h=>.inl h⟩
  ·rw[if_neg hp] at h;cases h
 |n::r,s,s',hn,hs,h=>by
  rw[fnd?] at h;cases hp:P s with
  |some b=>
   rw[hp] at h;cases b with
   |true=>cases h;exact⟨hp,fun _ _ h=>h,fun _ _ h=>.inl h⟩
   |false=>cases h
  |none=>
   rw[hp] at h;obtain⟨x,hx,h2⟩:=List.exists_of_findSome?_eq_some h;have hnn:=aa9.1 hn
   obtain⟨g1,g2,g3⟩:=j2b r (stl s n x) s' hnn.2 (fun m hm=>by
    unfold stl;rw[if_neg (show ¬m=n from fun e=>hnn.1 (e ▸ hm))];exact hs m (by simp[hm])) h2
   refine⟨g1,fun m y hm=>g2 m y (y0a (hs n (by simp)) m y hm),fun m y hm=>?_⟩;rcases g3 m y hm with h3|⟨h3,h4⟩
   ·unfold stl at h3;by_cases e:m=n
    ·rw[if_pos e] at h3;cases h3;exact .inr ⟨by simp[e],by rw[e];exact hx⟩
    ·rw[if_neg e] at h3;exact .inl h3
   ·exact .inr ⟨by simp[h3],h4⟩
theorem w2h{s:Txt->Option α}{n:Txt}{r:List Txt}{a:Txt->α}(h:s n=none):j3f (stl s n (a n)) r a=j3f s (n::r) a:=by
 funext m
 unfold j3f stl;by_cases e:m=n
 ·subst e;rw[if_pos rfl,h];simp
 ·rw[if_neg e];cases s m with
  |some x=>rfl
  |none=>simp[e]
theorem w3h{s:Txt->Option α}{a:Txt->α}:j3f s [] a=s:=by
 funext m
 unfold j3f;cases s m<;>simp
theorem w4h{s:Txt->Option α}{ns:List Txt}{a:Txt->α}:ext s (j3f s ns a):=fun m x h=>by
 unfold j3f;rw[h]
theorem j4o(hm:∀s s' b,ext s s'->P s=some b->P s'=some b):∀(ns:List Txt) (s:Txt->Option α),ns.Nodup->(∀n,n∈ns->s n=none)->fnd? P can ns s=none->
  ∀a:Txt->α,(∀n,n∈ns->a n∈can n)->P (j3f s ns a)≠some true
 |[],s,_,_,h,a,_=>by
  rw[fnd?] at h;rw[w3h];intro hp;rw[if_pos hp] at h;cases h
 |n::r,s,hn,hs,h,a,ha=>by
  rw[fnd?] at h;cases hp:P s with
  |some b=>
   rw[hp] at h;cases b with
   |true=>cases h
   |false=>rw[hm s _ false w4h hp];simp
  |none=>
   rw[hp] at h;have hnn:=aa9.1 hn;have h2:=List.findSome?_eq_none_iff.1 h (a n) (ha n (by simp))
   have:=j4o hm r (stl s n (a n)) hnn.2 (fun m hmm=>by
    unfold stl;rw[if_neg (show ¬m=n from fun e=>hnn.1 (e ▸ hmm))];exact hs m (by simp[hmm])) h2 a (fun m hmm=>ha m (by simp[hmm]))
   rwa [w2h (hs n (by simp))] at this
end
end Go.Pv
namespace Go.Proofs.YtelmfadihfcgnaaGreatDoor
open Go Go.Pv
set_option maxRecDepth 100000
abbrev Fd:=q2a
def y2t:Option Bool->Option Bool->Option Bool
 |some false,_=>some false
 |some true,b=>b
 |none,some false=>some false
 |none,_=>none
def or3:Option Bool->Option Bool->Option Bool
 |some true,_=>some true
 |some false,b=>b
 |none,some true=>some true
 |none,_=>none
structure Lf where
 k:Int
 nm:Txt
 tx:List Txt
 op:Int
 n:Int
def Lf.one(l:Lf)(x:Fd):Bool:=z5w l.k l.op l.n l.tx x
noncomputable section
mutual
def Tr.lvs:Tr->List Lf
 | .mk k nm tx op n ks=>if k=1 then [] else if k=6\/k=7\/k=8 then Tr.lvss ks else [⟨k,nm,tx,op,n⟩]
def Tr.lvss:List Tr->List Lf
 |[]=>[]
 |t::r=>Tr.lvs t++Tr.lvss r
end
mutual
def Tr.tr3(s:Txt->Option Fd):Tr->Option Bool
 | .mk k nm tx op n ks=>if k=1 then some true else if k=6 then (Tr.all3 s ks).map (!·) else if k=7 then Tr.all3 s ks else if k=8 then Tr.any3 s ks else (s nm).map (z5w k op n tx)
def Tr.all3(s:Txt->Option Fd):List Tr->Option Bool
 |[]=>some true
 |t::r=>y2t (Tr.tr3 s t) (Tr.all3 s r)
def Tr.any3(s:Txt->Option Fd):List Tr->Option Bool
 |[]=>some false
 |t::r=>or3 (Tr.tr3 s t) (Tr.any3 s r)
end
mutual
def Tr.truA(a:Txt->Fd):Tr->Bool
 | .mk k nm tx op n ks=>if k=1 then true else if k=6 then !(Tr.allA a ks) else if k=7 then Tr.allA a ks else if k=8 then Tr.anyA a ks else z5w k op n tx (a nm)
def Tr.allA(a:Txt->Fd):List Tr->Bool
 |[]=>true
 |t::r=>Tr.truA a t&&Tr.allA a r
def Tr.anyA(a:Txt->Fd):List Tr->Bool
 |[]=>false
 |t::r=>Tr.truA a t||Tr.anyA a r
end
end
theorem q4z{ks:List Tr}{l:Lf}:l∈Tr.lvss ks<->∃t,t∈ks/\l∈t.lvs:=by
 induction ks with
 |nil=>simp[Tr.lvss]
 |cons t r ih=>simp[Tr.lvss,ih]
theorem w2e{a a' b b':Option Bool}{c:Bool}(h1:∀c,a=some c->a'=some c)(h2:∀c,b=some c->b'=some c)(h:y2t a b=some c):y2t a' b'=some c:=by
 cases a with
 |some x=>
  rw[h1 x rfl];cases x with
  |false=>exact h
  |true=>exact h2 c h
 |none=>
  cases b with
  |none=>cases h
  |some y=>
   cases y with
   |true=>cases h
   |false=>
    rw[h2 false rfl];cases h;cases a' with
    |none=>rfl
    |some z=>cases z<;>rfl
theorem w2j{a a' b b':Option Bool}{c:Bool}(h1:∀c,a=some c->a'=some c)(h2:∀c,b=some c->b'=some c)(h:or3 a b=some c):or3 a' b'=some c:=by
 cases a with
 |some x=>
  rw[h1 x rfl];cases x with
  |true=>exact h
  |false=>exact h2 c h
 |none=>
  cases b with
  |none=>cases h
  |some y=>
   cases y with
   |false=>cases h
   |true=>
    rw[h2 true rfl];cases h;cases a' with
    |none=>rfl
    |some z=>cases z<;>rfl
theorem j5d{s s':Txt->Option Fd}:∀ks:List Tr,(∀t,t∈ks->∀b,t.tr3 s=some b->t.tr3 s'=some b)->∀b,Tr.all3 s ks=some b->Tr.all3 s' ks=some b
 |[],_,b,h=>by rw[Tr.all3] at h ⊢;exact h
 |t::r,ih,b,h=>by
  rw[Tr.all3] at h ⊢;exact w2e (ih t (by simp)) (j5d r fun u hu=>ih u (by simp[hu])) h
theorem j0z{s s':Txt->Option Fd}:∀ks:List Tr,(∀t,t∈ks->∀b,t.tr3 s=some b->t.tr3 s'=some b)->∀b,Tr.any3 s ks=some b->Tr.any3 s' ks=some b
 |[],_,b,h=>by rw[Tr.any3] at h ⊢;exact h
 |t::r,ih,b,h=>by
  rw[Tr.any3] at h ⊢;exact w2j (ih t (by simp)) (j0z r fun u hu=>ih u (by simp[hu])) h
theorem z8m{s s':Txt->Option Fd}(he:ext s s'):∀t:Tr,∀b,t.tr3 s=some b->t.tr3 s'=some b:=Tr.ind fun k nm tx op n ks ih b h=>by
 rw[Tr.tr3] at h ⊢;by_cases h1:k=1
 ·rw[if_pos h1] at h ⊢;exact h
 rw[if_neg h1] at h ⊢;by_cases h6:k=6
 ·rw[if_pos h6] at h ⊢;rw[ae9] at h;obtain⟨c,h1,h2⟩:=h;rw[j5d ks ih c h1,<-h2];rfl
 rw[if_neg h6] at h ⊢;by_cases h7:k=7
 ·rw[if_pos h7] at h ⊢;exact j5d ks ih b h
 rw[if_neg h7] at h ⊢;by_cases h8:k=8
 ·rw[if_pos h8] at h ⊢;exact j0z ks ih b h
 rw[if_neg h8] at h ⊢;rw[ae9] at h ⊢;obtain⟨x,h1,h2⟩:=h;exact⟨x,he _ _ h1,h2⟩
theorem z8g{s:Txt->Option Fd}{a:Txt->Fd}:∀t:Tr,(∀l,l∈t.lvs->s l.nm=some (a l.nm))->t.tr3 s=some (t.truA a):=Tr.ind fun k nm tx op n ks ih h=>by
 rw[Tr.lvs] at h;rw[Tr.tr3,Tr.truA];by_cases h1:k=1
 ·rw[if_pos h1,if_pos h1]
 rw[if_neg h1] at h ⊢;rw[if_neg h1]
 have hall:(∀l,l∈Tr.lvss ks->s l.nm=some (a l.nm))->∀l:List Tr,(∀t,t∈l->t∈ks)->Tr.all3 s l=some (Tr.allA a l):=by
  intro hk l
  induction l with
  |nil=>intro _;rw[Tr.all3,Tr.allA]
  |cons t r ihr=>
   intro hm;rw[Tr.all3,Tr.allA,ih t (hm t (by simp)) (fun l hl=>hk l (q4z.2 ⟨t,hm t (by simp),hl⟩)),ihr fun u hu=>hm u (by simp[hu])];cases t.truA a<;>rfl
 have hany:(∀l,l∈Tr.lvss ks->s l.nm=some (a l.nm))->∀l:List Tr,(∀t,t∈l->t∈ks)->Tr.any3 s l=some (Tr.anyA a l):=by
  intro hk l
  induction l with
  |nil=>intro _;rw[Tr.any3,Tr.anyA]
  |cons t r ihr=>
   intro hm;rw[Tr.any3,Tr.anyA,ih t (hm t (by simp)) (fun l hl=>hk l (q4z.2 ⟨t,hm t (by simp),hl⟩)),ihr fun u hu=>hm u (by simp[hu])];cases t.truA a<;>rfl
 by_cases h6:k=6
 ·rw[if_pos (.inl h6)] at h;rw[if_pos h6,if_pos h6,hall h ks fun _ q=>q];rfl
 rw[if_neg h6,if_neg h6];by_cases h7:k=7
 ·rw[if_pos (.inr (.inl h7))] at h;rw[if_pos h7,if_pos h7,hall h ks fun _ q=>q]
 rw[if_neg h7,if_neg h7];by_cases h8:k=8
 ·rw[if_pos (.inr (.inr h8))] at h;rw[if_pos h8,if_pos h8,hany h ks fun _ q=>q]
 rw[if_neg (by simp[h6,h7,h8])] at h;rw[if_neg h8,if_neg h8,h ⟨k,nm,tx,op,n⟩ (by simp)];rfl
theorem z0r{a b:Txt->Fd}:∀t:Tr,(∀l,l∈t.lvs->l.one (a l.nm)=l.one (b l.nm))->t.truA a=t.truA b:=Tr.ind fun k nm tx op n ks ih h=>by
 rw[Tr.lvs] at h;rw[Tr.truA,Tr.truA];by_cases h1:k=1
 ·rw[if_pos h1,if_pos h1]
 rw[if_neg h1] at h ⊢;rw[if_neg h1]
 have hall:(∀l,l∈Tr.lvss ks->l.one (a l.nm)=l.one (b l.nm))->∀l:List Tr,(∀t,t∈l->t∈ks)->Tr.allA a l=Tr.allA b l:=by
  intro hk l
  induction l with
  |nil=>intro _;rw[Tr.allA,Tr.allA]
  |cons t r ihr=>
   intro hm;rw[Tr.allA,Tr.allA,ih t (hm t (by simp)) (fun l hl=>hk l (q4z.2 ⟨t,hm t (by simp),hl⟩)),ihr fun u hu=>hm u (by simp[hu])]
 have hany:(∀l,l∈Tr.lvss ks->l.one (a l.nm)=l.one (b l.nm))->∀l:List Tr,(∀t,t∈l->t∈ks)->Tr.anyA a l=Tr.anyA b l:=by
  intro hk l
  induction l with
  |nil=>intro _;rw[Tr.anyA,Tr.anyA]
  |cons t r ihr=>
   intro hm;rw[Tr.anyA,Tr.anyA,ih t (hm t (by simp)) (fun l hl=>hk l (q4z.2 ⟨t,hm t (by simp),hl⟩)),ihr fun u hu=>hm u (by simp[hu])]
 by_cases h6:k=6
 ·rw[if_pos (.inl h6)] at h;rw[if_pos h6,if_pos h6,hall h ks fun _ q=>q]
 rw[if_neg h6,if_neg h6];by_cases h7:k=7
 ·rw[if_pos (.inr (.inl h7))] at h;rw[if_pos h7,if_pos h7,hall h ks fun _ q=>q]
 rw[if_neg h7,if_neg h7];by_cases h8:k=8
 ·rw[if_pos (.inr (.inr h8))] at h;rw[if_pos h8,if_pos h8,hany h ks fun _ q=>q]
 rw[if_neg (by simp[h6,h7,h8])] at h;rw[if_neg h8,if_neg h8];exact h ⟨k,nm,tx,op,n⟩ (by simp)
theorem w9h(f:q4j):∀t:Tr,t.tru f=t.truA (fld f):=Tr.ind fun k nm tx op n ks ih=>by
 rw[Tr.tru,Tr.truA]
 have hall:∀l:List Tr,(∀t,t∈l->t∈ks)->Tr.allT f l=Tr.allA (fld f) l:=by
  intro l
  induction l with
  |nil=>intro _;rw[Tr.allT,Tr.allA]
  |cons t r ihr=>intro hm;rw[Tr.allT,Tr.allA,ih t (hm t (by simp)),ihr fun u hu=>hm u (by simp[hu])]
 have hany:∀l:List Tr,(∀t,t∈l->t∈ks)->Tr.anyT f l=Tr.anyA (fld f) l:=by
  intro l
  induction l with
  |nil=>intro _;rw[Tr.anyT,Tr.anyA]
  |cons t r ihr=>intro hm;rw[Tr.anyT,Tr.anyA,ih t (hm t (by simp)),ihr fun u hu=>hm u (by simp[hu])]
 rw[hall ks fun _ h=>h,hany ks fun _ h=>h]
end Go.Proofs.YtelmfadihfcgnaaGreatDoor
namespace Go.Proofs.YtelmfadihfcgnaaGreatDoor
open Go Go.Pv
set_option maxRecDepth 100000
def toF(x:q0a):Fd:=⟨x.hasText,x.hasNumber,x.text,x.number⟩
abbrev MpV:=List (Txt×q0a)
abbrev MpB:=List (Txt×Bool)
def sgm(m:MpV)(kn:MpB):Txt->Option Fd:=fun n=>if (q7f kn n).getD false=true then some (toF (gV m n)) else none
def tv3:Option Bool->Int
 |none=>0
 |some true=>1
 |some false=>2
theorem v2i(b:Bool):tv3 (some b)=tv b:=by cases b<;>rfl
section
variable(F:Nat)(m:MpV)(kn:MpB)(nm:B8)
theorem v4n:w1x F ⟨m,some kn⟩ nm=some (gV m nm,(q7f kn nm).getD false):=rfl
theorem y6w(op n:Int)(tx:List B8):y8f F ⟨nm,tx⟩ ⟨m,some kn⟩=some (tv3 ((sgm m kn nm).map (z5w 2 op n tx))):=by
 unfold y8f sgm;rw[v4n,cb8];dsimp only;cases (q7f kn nm).getD false
 ·rfl
 ·rw[j6z,q0t,cb8,q0t,if_pos rfl,bc8,v2i];unfold z5w toF;rw[y0y];cases (gV m nm).hasText<;>rfl
theorem y5w(op n:Int)(tx:List B8):y6f F ⟨nm,tx⟩ ⟨m,some kn⟩=some (tv3 ((sgm m kn nm).map (z5w 3 op n tx))):=by
 unfold y6f sgm;rw[v4n,cb8];dsimp only;cases (q7f kn nm).getD false
 ·rfl
 ·rw[v8a,q0t,cb8,q0t,if_pos rfl,bc8,v2i];unfold z5w toF;rw[y9x];cases (gV m nm).hasText<;>rfl
theorem y4w(op n:Int)(tx:List B8):y4f F ⟨nm⟩ ⟨m,some kn⟩=some (tv3 ((sgm m kn nm).map (z5w 4 op n tx))):=by
 unfold y4f sgm;rw[v4n,cb8];dsimp only;cases (q7f kn nm).getD false
 ·rfl
 ·rw[q0t,q0t,if_pos rfl,bc8,v2i];unfold z5w toF;cases (gV m nm).hasText<;>rfl
theorem y3w(op n:Int)(tx:List B8):y2f F ⟨nm,op,n⟩ ⟨m,some kn⟩=some (tv3 ((sgm m kn nm).map (z5w 5 op n tx))):=by
 unfold y2f sgm;rw[v4n,cb8];dsimp only;cases (q7f kn nm).getD false
 ·rfl
 ·rw[w7f,q0t,cb8,q0t,if_pos rfl,bc8,v2i];unfold z5w toF;cases (gV m nm).hasNumber<;>rfl
end
theorem y4q(m:MpV)(kn:MpB):∀t:Tr,t.ok->t.flt=0->∀F,t.fu<=F->q8m F t.cd ⟨m,some kn⟩=some (tv3 (t.tr3 (sgm m kn))):=Tr.ind fun k nm tx op n ks ih ok hz F hF=>by
 rw[Tr.fu] at hF;obtain⟨hnode,hfl⟩:=q2r hz;obtain⟨F,rfl⟩:∃G,F=G+1:=⟨F - 1,by omega⟩
 show q3u (q8m F) F (Tr.mk k nm tx op n ks).cd ⟨m,some kn⟩=_
 have hkid:∀t,t∈ks->q8m F t.cd ⟨m,some kn⟩=some (tv3 (t.tr3 (sgm m kn))):=fun t ht=>ih t ht (Tr.oks_mem (Tr.okks ok).1 ht) (q1n hfl ht) F (by have:=Tr.fu_mem ht;omega);have hkk:=q2y hnode;dsimp only at hkk;have hk':k=1\/k=2\/k=3\/k=4\/k=5\/k=6\/k=7\/k=8:=by omega
 rw[Tr.cd,Tr.tr3]
 have hall:∀(l:List Tr) (A:Option Bool),A≠some false->(∀t,t∈l->t∈ks)->q5u (q8m F) F ⟨m,some kn⟩ (fun n4=>some n4) (Tr.cds l) (tv3 A)=some (tv3 (y2t A (Tr.all3 (sgm m kn) l))):=by
  intro l
  induction l with
  |nil=>
   intro A hA _;rw[Tr.cds,Tr.all3,q5u];cases A with
   |none=>rfl
   |some b=>cases b<;>rfl
  |cons t r ihr=>
   intro A hA hm;rw[Tr.cds,q5u,hkid t (hm t (by simp)),cb8,q3c,Tr.all3];have hr:=fun B hB=>ihr B hB fun u hu=>hm u (by simp[hu]);cases t.tr3 (sgm m kn) with
   |none=>
    show q5u _ _ _ _ _ 0=_
    rw[show(0:Int)=tv3 none from rfl,hr none (by simp)];cases A with
    |none=>cases Tr.all3 (sgm m kn) r with
     |none=>rfl
     |some b=>cases b<;>rfl
    |some a=>cases a with
     |false=>exact absurd rfl hA
     |true=>rfl
   |some b=>
    cases b with
    |false=>
     cases A with
     |none=>rfl
     |some a=>cases a with
      |false=>exact absurd rfl hA
      |true=>rfl
    |true=>exact hr A hA
 have hany:∀(l:List Tr) (A:Option Bool),A≠some true->(∀t,t∈l->t∈ks)->q4u (q8m F) F ⟨m,some kn⟩ (fun n4=>some n4) (Tr.cds l) (tv3 A)=some (tv3 (or3 A (Tr.any3 (sgm m kn) l))):=by
  intro l
  induction l with
  |nil=>
   intro A hA _;rw[Tr.cds,Tr.any3,q4u];cases A with
   |none=>rfl
   |some b=>cases b<;>rfl
  |cons t r ihr=>
   intro A hA hm;rw[Tr.cds,q4u,hkid t (hm t (by simp)),cb8,q3c,Tr.any3];have hr:=fun B hB=>ihr B hB fun u hu=>hm u (by simp[hu]);cases t.tr3 (sgm m kn) with
   |none=>
    show q4u _ _ _ _ _ 0=_
    rw[show(0:Int)=tv3 none from rfl,hr none (by simp)];cases A with
    |none=>cases Tr.any3 (sgm m kn) r with
     |none=>rfl
     |some b=>cases b<;>rfl
    |some a=>cases a with
     |true=>exact absurd rfl hA
     |false=>rfl
   |some b=>
    cases b with
    |true=>
     cases A with
     |none=>rfl
     |some a=>cases a with
      |true=>exact absurd rfl hA
      |false=>rfl
    |false=>exact hr A hA
 unfold q3u;rcases hk' with e|e|e|e|e|e|e|e
 ·subst e;simp only[show ¬(1:Int)=2 by decide,show ¬(1:Int)=3 by decide,show ¬(1:Int)=4 by decide,show ¬(1:Int)=5 by decide,show ¬(1:Int)=6 by decide,show ¬(1:Int)=7 by decide,show ¬(1:Int)=8 by decide,if_false];rw[q2c (by decide),q2c (by decide),q2c (by decide),q2c (by decide),q2c (by decide),q2c (by decide),q2c (by decide),q9k v5k];rfl
 ·subst e;rw[if_pos rfl,q9k v9z];exact y6w F m kn nm op n tx
 ·subst e;rw[if_neg (by decide),if_pos rfl,q2c (by decide),q9k z7r];exact y5w F m kn nm op n tx
 ·subst e;rw[if_neg (by decide),if_neg (by decide),if_pos rfl,q2c (by decide),q2c (by decide),q9k v4e];exact y4w F m kn nm op n tx
 ·subst e;rw[if_neg (by decide),if_neg (by decide),if_neg (by decide),if_pos rfl,q2c (by decide),q2c (by decide),q2c (by decide),q9k z6r];exact y3w F m kn nm op n tx
 ·subst e;rw[if_neg (by decide),if_neg (by decide),if_neg (by decide),if_neg (by decide),if_pos rfl,q2c (by decide),q2c (by decide),q2c (by decide),q2c (by decide),q9k v3e];have h1:ks.length=1:=by rw[<-z7n hnode rfl];exact(Tr.toKs_len ks).symm
  match ks,h1,hkid with
  |[t],_,hkid=>
   show y0f (q8m F) F ⟨(Tr.cds [t]).headD _⟩ ⟨m,some kn⟩=_
   rw[Tr.cds,cl9,y0f,hkid t (by simp),cb8,if_neg (by decide),if_pos rfl,Tr.all3,Tr.all3];cases t.tr3 (sgm m kn) with
   |none=>rfl
   |some b=>cases b<;>rfl
 ·subst e;rw[if_neg (by decide),if_neg (by decide),if_neg (by decide),if_neg (by decide),if_neg (by decide),if_pos rfl,q2c (by decide),q2c (by decide),q2c (by decide),q2c (by decide),q2c (by decide),q9k v6e];exact hall ks (some true) (by simp) fun _ h=>h
 ·subst e;rw[if_neg (by decide),if_neg (by decide),if_neg (by decide),if_neg (by decide),if_neg (by decide),if_neg (by decide),if_pos rfl,q2c (by decide),q2c (by decide),q2c (by decide),q2c (by decide),q2c (by decide),q2c (by decide),q9k v5e];exact hany ks (some false) (by simp) fun _ h=>h
end Go.Proofs.YtelmfadihfcgnaaGreatDoor
