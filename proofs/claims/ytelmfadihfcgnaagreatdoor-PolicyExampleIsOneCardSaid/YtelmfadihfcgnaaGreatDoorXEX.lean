/- Part of the proof: C9RM, C9P3, EV, EX. -/
import Derived.Test.YtelmfadihfcgnaaGreatDoorXC9RL
import Derived.Test.YtelmfadihfcgnaaGreatDoorXDN
import Derived.Test.YtelmfadihfcgnaaGreatDoorXWA
import Derived.Test.YtelmfadihfcgnaaGreatDoorXPvT
import Derived.Test.YtelmfadihfcgnaaGreatDoorXDK
set_option linter.unusedSimpArgs false
set_option linter.unusedVariables false
namespace Go.Proofs.YtelmfadihfcgnaaGreatDoor
open Go Go.Pv
set_option maxRecDepth 100000
theorem y6o{u v:Fd}(l:Lf)(h1:u.isText=v.isText)(h2:u.isText=true->u.text=v.text)(h3:u.isNumber=v.isNumber)(h4:u.isNumber=true->u.number=v.number):l.one u=l.one v:=by
 unfold Lf.one z5w;rw[<-h1,<-h3];split
 ·rfl
 ·split
  ·cases hu:u.isNumber with
   |false=>rfl
   |true=>rw[h4 hu]
  ·cases hu:u.isText with
   |false=>rfl
   |true=>rw[h2 hu]
theorem w9m(m:MpV)(kind:Txt)(ns:List Txt)(hns:∀n,n ∉ ns->gV m n=zV)(l:Lf)(n:Txt):l.one (fld ⟨kind,[],q3w m ns,q7w m ns⟩ n)=l.one (toF (gV m n)):=by
 unfold fld toF;dsimp only;rw[v4l,v6l];by_cases hn:n∈ns
 ·refine y6o l ?_ ?_ ?_ ?_
  ·dsimp only;by_cases h:(gV m n).hasText=true
   ·rw[if_pos ⟨hn,h⟩,h]
   ·rw[if_neg fun h'=>h h'.2];simpa using h
  ·dsimp only;by_cases h:(gV m n).hasText=true
   ·rw[if_pos ⟨hn,h⟩];exact fun _=>rfl
   ·rw[if_neg fun h'=>h h'.2];exact fun h=>by cases h
  ·dsimp only;by_cases h:(gV m n).hasNumber=true
   ·rw[if_pos ⟨hn,h⟩,h]
   ·rw[if_neg fun h'=>h h'.2];simpa using h
  ·dsimp only;by_cases h:(gV m n).hasNumber=true
   ·rw[if_pos ⟨hn,h⟩];exact fun _=>rfl
   ·rw[if_neg fun h'=>h h'.2];exact fun h=>by cases h
 ·rw[hns n hn,if_neg fun h=>hn h.1,if_neg fun h=>hn h.1];rfl
theorem w5y{s:Txt}(h:okT s):j2i s=true:=by
 unfold j2i;rw[as9,decide_eq_true_eq,as8];refine⟨h.1,fun c hc=>?_⟩;have:=h.2 c hc;unfold w6h;rw[as9,decide_eq_true_eq,decide_eq_true_eq];exact this
theorem j1a{s:Txt}(h:q8k s=true):s.length<=40:=by
 unfold q8k at h;split at h
 ·cases h
 ·rw[as9,as9,as9,decide_eq_true_eq] at h;exact h.1.1.1
structure w4g(t:Tr)(kind:Txt)(f:q4j):Prop where
 kd:f.Kind=kind
 sj:f.Subject=[]
 ok:okTFact' f
 vf:vF f=0
 tr:t.tru f=true
 tx:∀p,p∈f.Texts->∃l,l∈t.lvs/\l.nm=p.Name
 nx:∀p,p∈f.Numbers->∃l,l∈t.lvs/\l.nm=p.Name
theorem y8v(t:Tr)(hz:t.flt=0)(hc:t.cnt<=60)(hw:v4q t=true)(kind:Txt)(hk:okS kind)(hkn:q8k kind=true)(F:Nat)(ns:List Txt)(by_:List (Txt×List q0a))(cd:KV)(m:MpV)(kn:MpB)(s:Asg)
  (hs:Std m kn s) (hp:prT t s=some true) (hv:∀n x,s n=some x->okV (toF x)/\n∈z4n t):∃f,M37 F ns by_ m kn cd kind=some f/\w4g t kind f:=by
 have hkey:∀n,n∈m.map (·.1)->∃x,s n=some x:=fun n hn=>by
  cases hx:s n with
  |some x=>exact⟨x,rfl⟩
  |none=>exact absurd hn (j2a.1 ((hs.fm n).trans hx))
 have hin:∀n,n∈m.map (·.1)->n∈z4n t:=fun n hn=>by
  obtain⟨x,hx⟩:=hkey n hn;exact(hv n x hx).2
 have hnb:∀n,n∈m.map (·.1)->q8k n=true/\∃l,l∈t.lvs/\l.nm=n:=fun n hn=>by
  obtain⟨l,hl,e⟩:=(z0h hz hc).1 (hin n hn);exact⟨e ▸ (z9d t hz l hl).nm,l,hl,e⟩
 have hkl:(m.map (·.1)).length<=17:=bz9 (z6n hs.nm hin) (w2b hz hc hw);have hml:m.length<=17:=by simpa using hkl
 obtain⟨l7,hl7⟩:∃l7,l7=q1s (m.map (·.1)):=⟨_,rfl⟩;have hmem:∀n,n∈l7<->n∈m.map (·.1):=fun n=>by rw[hl7];exact(q5m _).mem_iff
 have hl7l:l7.length<=17:=by rw[hl7,(q5m _).length_eq];exact hkl
 have hsk:j0u m=some l7:=by
  unfold j0u;rw[if_pos ⟨by omega,fun p hp=>by have:=j1a (hnb p.1 (bq8 hp)).1;omega⟩,hl7]
 have hsrt:Srt l7:=by rw[hl7];exact v8u hs.nm
 have hgv:∀n,gV m n=(s n).getD zV:=fun n=>by unfold gV;rw[hs.fm]
 have hz':∀n,n ∉ l7->gV m n=zV:=fun n hn=>by
  have:=j2a.2 (fun h=>hn ((hmem n).2 h));unfold gV;rw[this];rfl
 have htl:=v0u m l7;have hnl:=v9w m l7
 have hval:∀n,n∈l7->okV (toF (gV m n)):=fun n hn=>by
  obtain⟨x,hx⟩:=hkey n ((hmem n).1 hn);rw[hgv,hx];exact(hv n x hx).1
 refine⟨⟨kind,[],q3w m l7,q7w m l7⟩,?_,rfl,rfl,?_,?_,?_,fun p hp=>?_,fun p hp=>?_⟩
 ·unfold M37;rw[hsk,cb8,q3c,v5a F m kind l7 [] [] (by simp;omega) (by simp;omega)];rfl
 ·refine⟨hk,by simp[okS],fun p hp=>?_,by rw[j3a];show(q3w m l7).length<=_;omega,fun p hp=>?_,by rw[j3a];show(q7w m l7).length<=_;omega⟩
  ·obtain⟨h1,h2,h3⟩:=z6m.1 hp;have a1:=j1a (hnb _ ((hmem _).1 h1)).1;have a2:=((hval _ h1).1 h2).1;refine⟨by unfold okS;omega,?_⟩;rw[h3];unfold okS;have:(toF (gV m p.Name)).text=(gV m p.Name).text:=rfl;rw[this] at a2;omega
  ·obtain⟨h1,h2,h3⟩:=z5n.1 hp;have a1:=j1a (hnb _ ((hmem _).1 h1)).1;unfold okS;omega
 ·unfold vF;dsimp only;rw[hkn,if_neg (by simp),show j2i []=true from rfl,if_neg (by simp),if_neg (by omega),if_pos (v3i (j7s hsrt) (fun x hx=>?_) (q3w m l7) 0 bv9),if_neg (by omega),v6j (j1v hsrt) (fun x hx=>?_) (q7w m l7) 0 bv9]
  ·obtain⟨h1,h2,h3⟩:=z5n.1 hx;exact⟨(hnb _ ((hmem _).1 h1)).1,by rw[h3];exact(hval _ h1).2 h2⟩
  ·obtain⟨h1,h2,h3⟩:=z6m.1 hx;exact⟨(hnb _ ((hmem _).1 h1)).1,by rw[h3];exact w5y ((hval _ h1).1 h2)⟩
 ·rw[w9h,z0r t (b:=fun n=>toF (gV m n)) fun l hl=>w9m m kind l7 hz' l l.nm]
  have h6:t.tr3 (fun n=>some (toF (gV m n)))=some true:=z8m (fun n x hx=>by
   unfold asF at hx;rw[ae9] at hx;obtain⟨y,h1,h2⟩:=hx;rw[hgv,h1,<-h2];rfl) t true hp
  rw[z8g (a:=fun n=>toF (gV m n)) t fun _ _=>rfl] at h6;exact aj9 h6
 ·exact(hnb _ ((hmem _).1 (z6m.1 hp).1)).2
 ·exact(hnb _ ((hmem _).1 (z5n.1 hp).1)).2
theorem M9_ok(t:Tr)(ok:t.ok)(kind:Txt)(hk:okS kind)(F:Nat)(hF:t.fu+3000000<=F):
  ∃f r c,M9 F t.toT kind=some (f,r,c)/\c=(if vT t≠0 then vT t else if q8k kind=false then 8 else if v4q t=false then 3 else 0)/\(r=true<->vT t=0/\q8k kind=true/\v4q t=true/\Ex t)/\(r=true->w4g t kind f):=by
 unfold M9;rw[w0x t ok F (by omega),cb8];by_cases h1:vT t=0
 ·rw[if_neg (by simp[h1]),v7a F kind hk,cb8];cases h2:q8k kind with
  |false=>
   rw[if_pos (by simp)];exact⟨_,_,_,rfl,by rw[if_neg (by simp[h1]),if_pos rfl],⟨fun h=>(by cases h),fun h=>(by cases h.2.1)⟩,fun h=>(by cases h)⟩
  |true=>
   obtain⟨hz,hc⟩:=v1c h1;rw[if_neg (by simp),w9w t ok hz hc F (by omega),cb8,y9e t ok hz hc F (by omega),cb8,y8e F hz hc,cb8];cases h3:v4q t with
   |false=>
    rw[if_pos (by simp)];exact⟨_,_,_,rfl,by rw[if_neg (by simp[h1]),if_neg (by simp),if_pos rfl],⟨fun h=>(by cases h),fun h=>(by cases h.2.2.1)⟩,fun h=>(by cases h)⟩
   |true=>
    rw[if_neg (by simp)];obtain⟨by_,m',kn',r,e1,e2,e3,e4⟩:=v0w t ok hz hc F (by omega);rw[e1,cb8,e2,cb8];cases r with
    |false=>
     rw[if_pos (by simp)];exact⟨_,_,_,rfl,by rw[if_neg (by simp[h1]),if_neg (by simp),if_neg (by simp)],⟨fun h=>(by cases h),fun h=>e3.2 h.2.2.2⟩,fun h=>(by cases h)⟩
    |true=>
     rw[if_neg (by simp)];obtain⟨s',a1,a2,a3⟩:=e4 rfl;obtain⟨f,hf,hg⟩:=y8v t hz hc h3 kind hk h2 F (z4n t) by_ t.cd m' kn' s' a1 a2 a3;dsimp only;rw[hf,cb8];exact⟨_,_,_,rfl,by rw[if_neg (by simp[h1]),if_neg (by simp),if_neg (by simp)],⟨fun _=>⟨h1,rfl,rfl,e3.1 rfl⟩,fun _=>rfl⟩,fun _=>hg⟩
 ·rw[if_pos (by simpa using h1)];exact⟨_,_,_,rfl,by rw[if_pos h1],⟨fun h=>(by cases h),fun h=>absurd h.1 h1⟩,fun h=>(by cases h)⟩
mutual
def Tr.nmd(x:Txt):Tr->Bool
 | .mk k nm tx op n ks=>nm==x||Tr.nmds x ks
def Tr.nmds(x:Txt):List Tr->Bool
 |[]=>false
 |t::r=>Tr.nmd x t||Tr.nmds x r
end
theorem y0x(x:Txt):∀t:Tr,t.ok->∀F,t.fu<=F->M14 F t.toT x=some (t.nmd x):=Tr.ind fun k nm tx op n ks ih ok F hF=>by
 rw[Tr.fu] at hF;obtain⟨F,rfl⟩:∃G,F=G+1:=⟨F - 1,by omega⟩
 show w8f (M14 F) F (Tr.mk k nm tx op n ks).toT x=_
 rw[Tr.toT,w8f,Tr.nmd];dsimp only
 have hl:∀(l:List Tr) (i:Nat),(∀t,t∈l->t∈ks)->∃j:Int,z4g (M14 F) F x (some (-1)) (Tr.toKs l) (i:Int)=some j/\decide (j>=0)=Tr.nmds x l:=by
  intro l
  induction l with
  |nil=>intro i _;exact⟨-1,by rw[Tr.toKs,z4g],by rw[Tr.nmds];rfl⟩
  |cons t r ihr=>
   intro i hm;have ht:=hm t (by simp);rw[Tr.toKs_map,bo9,z4g,Tr.dec,cb8,M46,ih t ht (Tr.oks_mem (Tr.okks ok).1 ht) F (by have:=Tr.fu_mem ht;omega),cb8,cb8,<-Tr.toKs_map,Tr.nmds];cases t.nmd x with
   |true=>exact⟨(i:Int),by rw[if_pos rfl],by rw[Bool.true_or];exact decide_eq_true (by omega)⟩
   |false=>
    obtain⟨j,h1,h2⟩:=ihr (i+1) fun u hu=>hm u (by simp[hu]);exact⟨j,by rw[if_neg (by simp)];exact h1,by rw[ck9];exact h2⟩
 by_cases e:nm=x
 ·rw[if_pos (by simpa using e),e,beq_self_eq_true,Bool.true_or]
 ·rw[if_neg (by simpa using e),beq_false_of_ne e,ck9];obtain⟨j,h1,h2⟩:=hl ks 0 fun _ h=>h;rw[show((0:Nat):Int)=0 from rfl] at h1;unfold M45 M107;rw[q3c,h1,cb8,h2];rfl
theorem y2b(x:Txt):∀t:Tr,(∃l,l∈t.lvs/\l.nm=x)->t.nmd x=true:=Tr.ind fun k nm tx op n ks ih h=>by
 obtain⟨lf,hl,e⟩:=h;rw[Tr.nmd];rw[Tr.lvs] at hl;split at hl
 ·simp at hl
 ·split at hl
  ·obtain⟨t,ht,hlt⟩:=q4z.1 hl
   have:∀l:List Tr,t∈l->Tr.nmds x l=true:=by
    intro l
    induction l with
    |nil=>intro h;simp at h
    |cons u r ihr=>
     intro h;rw[Tr.nmds];rcases at8.1 h with e2|h
     ·rw[<-e2,ih t ht ⟨lf,hlt,e⟩];rfl
     ·rw[ihr h,Bool.or_true]
   rw[this ks ht,Bool.or_true]
  ·simp only[bp9] at hl;subst hl;rw[show nm=x from e,beq_self_eq_true,Bool.true_or]
theorem w2x(t:Tr)(ok:t.ok)(x:Txt)(F:Nat)(hF:t.fu<=F)(h:∃l,l∈t.lvs/\l.nm=x):M13 F x t.toT.Kind t.toT.Name t.toT.Texts t.toT.Op t.toT.N t.toT.Kids=some false:=by
 have:M14 F (q0c.mk t.toT.Kind t.toT.Name t.toT.Texts t.toT.Op t.toT.N t.toT.Kids) x=some (t.nmd x):=y0x x t ok F hF;unfold M13;rw[this,cb8,y2b x t h];rfl
theorem v2n(t:Tr)(ok:t.ok)(F:Nat)(hF:t.fu<=F)(k:Option Bool):∀l:List q1h,(∀p,p∈l->∃m,m∈t.lvs/\m.nm=p.Name)->v4a F t.toT k l=k
 |[],_=>by rw[v4a]
 |p::l,h=>by
  rw[v4a,w2x t ok p.Name F hF (h p (by simp)),cb8,if_neg (by simp),v2n t ok F hF k l fun q hq=>h q (by simp[hq])]
theorem v1n(t:Tr)(ok:t.ok)(F:Nat)(hF:t.fu<=F)(k:Option Bool):∀l:List q6c,(∀p,p∈l->∃m,m∈t.lvs/\m.nm=p.Name)->v3a F t.toT k l=k
 |[],_=>by rw[v3a]
 |p::l,h=>by
  rw[v3a,w2x t ok p.Name F hF (h p (by simp)),cb8,if_neg (by simp),v1n t ok F hF k l fun q hq=>h q (by simp[hq])]
theorem y7e(t:Tr)(ok:t.ok)(kind:Txt)(hk:okS kind)(F:Nat)(hF:t.fu+3000000<=F):M3 F t.toT kind=some true:=by
 obtain⟨f,r,c,e1,c1,r1,g⟩:=M9_ok t ok kind hk F hF;obtain⟨f2,r2,c2,e2,c3,r3⟩:=y7x t ok kind hk F hF;unfold M3;rw[e1,cb8,e2,cb8];dsimp only;have hr:r=r2:=j4p (r1.trans r3.symm);rw[if_neg (by rw[hr];simp),if_neg (by rw[c1,c3];simp)];cases hrr:r with
 |false=>rw[if_pos (by simp)];rfl
 |true=>
  have hg:=g hrr;have hv:=(r1.1 hrr).1;rw[if_neg (by simp),y4x t ok f hg.ok F (by omega),cb8,q3c,v2n t ok F (by omega) _ f.Texts hg.tx,q3c,v1n t ok F (by omega) _ f.Numbers hg.nx];unfold y1c;rw[if_pos hv,if_pos hg.vf,if_pos (by rfl),if_pos hg.tr,if_pos (by rw[hg.kd];simp),if_pos (by rw[hg.sj];rfl)];rfl
theorem y8a(x:q0c)(s:B8)(hx:v7d x)(hs:s.length<=140737488351232):∃F,M3 F x s=some true:=by
 obtain⟨t,rfl,ok⟩:=hx;exact⟨t.fu+3000000,y7e t ok s hs _ (ae8 _)⟩
end Go.Proofs.YtelmfadihfcgnaaGreatDoor
namespace Go.Pv
open Go
section
variable{K:Ctx}{Q:q5l}{S S':St}{ops:Array Oper}{rest:List Oper}{t:TT}
def v9v(d:Nat)(v:V):Env->Env
 |[]=>[(d,v)]
 |(k,x)::e=>bif Nat.beq k d then (d,v)::e else (k,x)::v9v d v e
def v5s(d:Nat)(v:Ob):q8d->q8d
 |[]=>(match v with | .dead=>[]|v=>[(d,v)])
 |(k,x)::e=>bif Nat.beq k d then (d,v)::e else (k,x)::v5s d v e
theorem w1d(k d:Nat){α:Type}(a b:α):(bif Nat.beq k d then a else b)=if k=d then a else b:=by
 by_cases h:k=d
 ·subst h;simp
 ·have:Nat.beq k d=false:=by cases hb:Nat.beq k d;rfl;exact absurd (co9 hb) h
  simp[this,h]
theorem z7o(d:Nat)(v:V):∀(e:Env) (t:Nat),get (v9v d v e) t=get ((d,v)::e) t
 |[],t=>rfl
 |(k,x)::e,t=>by
  simp only[v9v,w1d];split
  ·rename_i h;subst h;simp only[q4k];split<;>rfl
  ·rename_i h;rw[q4k,z7o d v e t,q4k,q4k,q4k];split
   ·rename_i h2;subst h2;rw[if_neg (Ne.symm h)]
   ·rfl
theorem z0e(d:Nat)(v:Ob):∀(e:q8d) (t:Nat),q7b (v5s d v e) t=q7b ((d,v)::e) t
 |[],t=>by
  cases v with
  |dead=>simp only[v5s];rw[q0b];split<;>rfl
  |_=>rfl
 |(k,x)::e,t=>by
  simp only[v5s,w1d];split
  ·rename_i h;subst h;simp only[q0b];split<;>rfl
  ·rename_i h;rw[q0b,z0e d v e t,q0b,q0b,q0b];split
   ·rename_i h2;subst h2;rw[if_neg (Ne.symm h)]
   ·rfl
def w9y:Env->Env
 |(d,v)::e=>v9v d v e
 |[]=>[]
def w8y:q8d->q8d
 |(d,v)::(d2,v2)::e=>v5s d v (v5s d2 v2 e)
 |e=>e
theorem w7a(e:Env)(t:Nat):get (w9y e) t=get e t:=by
 cases e with
 |nil=>rfl
 |cons p e=>exact z7o p.1 p.2 e t
theorem v7p(e:q8d)(t:Nat):q7b (w8y e) t=q7b e t:=by
 match e with
 |[]=>rfl
 |[p]=>rfl
 |(d,v)::(d2,v2)::e=>
  show q7b (v5s d v (v5s d2 v2 e)) t=_
  rw[z0e,q0b,q0b,z0e]
theorem v8p{e:Env}{hp:q8d}{nx:Nat}:q4e K ⟨e,hp,nx⟩ ⟨w9y e,w8y hp,nx⟩:=fun m β _ _ r=>⟨m,β,r.congr (w7a e) (v7p hp) rfl⟩
def w0m:Value->Value->Option Bool
 | .int k a,.int k' b=>(match decide (k=k') with|true=>some (decide (a=b))|false=>none)
 | .string a,.string b=>some (j8t a==j8t b)
 |_,_=>none
theorem w6i{a b:ByteArray}(h:j8t a=j8t b):a=b:=by
 exact Value.string.inj ((q1t a).symm.trans ((congrArg str h).trans (q1t b)))
theorem v3k{x y:Value}{b:Bool}(h:w0m x y=some b):(x=y<->b=true):=by
 unfold w0m at h;split at h
 ·split at h
  ·rename_i hk;have hk:=of_decide_eq_true hk;subst hk;simp at h;subst h;simp
  ·simp at h
 ·simp at h;subst h;constructor
  ·intro e;simp[Value.string.inj e]
  ·intro e;exact congrArg Value.string (w6i (by simpa using e))
 ·simp at h
def v5y(x:Value):List (Value×V)->Option (Option V)
 |[]=>some none
 |(k,v)::es=>match w0m k x with|some b=>(match b with|true=>some (some v)|false=>v5y x es)|none=>none
theorem j6n{x:Value}:∀{es:List (Value×V)} {r:Option V},v5y x es=some r->j0f x es r
 |[],r,h=>by simp[v5y] at h;subst h;exact .nil
 |(k,v)::es,r,h=>by
  simp only[v5y] at h;split at h
  ·rename_i b hb;have hb:=v3k hb;split at h
   ·simp at h;subst h;rw[hb.2 rfl];exact .here
   ·exact .there (fun e=>by simpa using hb.1 e) (j6n h)
  ·simp at h
def v8v(x:Value)(v:V):List (Value×V)->Option (List (Value×V))
 |[]=>some [(x,v)]
 |(k,v')::es=>match w0m k x with
  |some b=>(match b with|true=>some ((x,v)::es)|false=>(match v8v x v es with|some r=>some ((k,v')::r)|none=>none))
  |none=>none
theorem v0j{x:Value}{v:V}:∀{es r:List (Value×V)},v8v x v es=some r->j8h x v es r
 |[],r,h=>by simp[v8v] at h;subst h;exact .nil
 |(k,v')::es,r,h=>by
  simp only[v8v] at h;split at h
  ·rename_i b hb;have hb:=v3k hb;split at h
   ·simp at h;subst h;rw[hb.2 rfl];exact .here
   ·split at h
    ·rename_i q hq;simp at h;subst h;exact .there (fun e=>by simpa using hb.1 e) (v0j hq)
    ·simp at h
  ·simp at h
structure MT where
 T:Nat
 k:Nat
 e:Nat
 txt:Bool
 ik:IntKind
 z:V
def y7y(txt:Bool)(ik:IntKind):Value->Prop:=fun v=>match txt with|true=>j1g v|false=>isInt ik v
structure y9t(P:Program)(p:MT):Prop where
 h1:q8u P p.T p.k p.e=true
 h2:j7l P p.k (y7y p.txt p.ik)
 h3:∃zv,(P.info? p.e).bind (·.zero)=some zv/\∀m,q1l m p.z zv
def w8e(P:Program)(l:List MT):Prop:=∀p,p∈l->y9t P p
def mtf:List MT->Nat->Option MT
 |[],_=>none
 |p::l,T=>bif Nat.beq p.T T then some p else mtf l T
theorem v6x{P:Program}:∀{l:List MT} {T:Nat} {p:MT},w8e P l->mtf l T=some p->y9t P p/\p.T=T
 |q::l,T,p,hl,h=>by
  simp only[mtf] at h;cases hb:Nat.beq q.T T with
  |true=>rw[hb] at h;simp at h;subst h;exact⟨hl _ ci9,co9 hb⟩
  |false=>rw[hb] at h;simp at h;exact v6x (fun p hp=>hl p (cb9 _ hp)) h
 |[],T,p,hl,h=>by simp[mtf] at h
def v6p(txt:Bool)(ik:IntKind):Value->Bool
 | .string _=>txt
 | .int k _=>(match txt with|true=>false|false=>decide (k=ik))
 |_=>false
theorem z3y{txt:Bool}{ik:IntKind}{v:Value}(h:v6p txt ik v=true):y7y txt ik v:=by
 unfold v6p at h;unfold y7y;split at h
 ·subst h;exact⟨_,rfl⟩
 ·split at h
  ·simp at h
  ·have h:=of_decide_eq_true h;subst h;exact⟨_,rfl⟩
 ·simp at h
def y3t(txt:Bool)(ik:IntKind):List (Value×V)->Bool
 |[]=>true
 |p::l=>bif v6p txt ik p.1 then y3t txt ik l else false
theorem j2q{txt:Bool}{ik:IntKind}:∀{l:List (Value×V)},y3t txt ik l=true->∀p,p∈l->y7y txt ik p.1
 |[],_,p,hp=>by simp at hp
 |q::l,h,p,hp=>by
  simp only[y3t] at h;cases hb:v6p txt ik q.1 with
  |true=>
   rw[hb] at h;simp at h;rcases at8.1 hp with rfl|hp
   ·exact z3y hb
   ·exact j2q h p hp
  |false=>rw[hb] at h;simp at h
def y6d(e:Env)(d:Nat):Option Operand->Option Nat
 |none=>some d
 |some y=>(match evC e y with|some (.con (.int _ n))=>(match n with | .ofNat j=>some j|_=>none)|_=>none)
theorem j7b{e:Env}(ha:Ag e S){d j:Nat}{x:Option Operand}(h:y6d e d x=some j):v4b K S x d j:=by
 unfold y6d at h;split at h
 ·simp at h;exact h.symm
 ·split at h
  ·rename_i hv;split at h
   ·simp at h;subst h;exact⟨_,q0d ha hv⟩
   ·simp at h
  ·simp at h
def ndR:List (List V)->Bool
 |[]=>true
 |r::l=>bif ndB r then ndR l else false
theorem j3v:∀{l:List (List V)},ndR l=true->∀row,row∈l->ndB row=true
 |[],_,r,hr=>by simp at hr
 |q::l,h,r,hr=>by
  simp only[ndR] at h;cases hb:ndB q with
  |true=>
   rw[hb] at h;simp at h;rcases at8.1 hr with rfl|hr
   ·exact hb
   ·exact j3v h r hr
  |false=>rw[hb] at h;simp at h
def rowsK(k:Nat):List (List V)->Bool
 |[]=>true
 |r::l=>bif z8c k r then rowsK k l else false
theorem j8m{k:Nat}:∀{l:List (List V)},rowsK k l=true->∀row,row∈l->row.length=k
 |[],_,r,hr=>by simp at hr
 |q::l,h,r,hr=>by
  simp only[rowsK] at h;cases hb:z8c k q with
  |true=>
   rw[hb] at h;simp at h;rcases at8.1 hr with rfl|hr
   ·exact q1p hb
   ·exact j8m h r hr
  |false=>rw[hb] at h;simp at h
def w6o(k:Nat):Nat->List V->List (List V)
 |0,_=>[]
 |n+1,l=>l.take k::w6o k n (l.drop k)
theorem j3b{k:Nat}:∀(n:Nat) (l:List V),l.length=n*k->v2l (w6o k n l)=l
 |0,l,h=>by simp at h;subst h;rfl
 |n+1,l,h=>by
  simp only[w6o,v2l];rw[j3b n _ (by rw[ao9,h,Nat.succ_mul];omega),cn9]
theorem j2p{k:Nat}:∀(n:Nat) (l:List V),(w6o k n l).length=n
 |0,l=>rfl
 |n+1,l=>by simp[w6o,j2p n]
def stoR(t:TT)(e:Env)(hp:q8d):Op->Option (Nat×Ob)
 | .store T x y=>(match ask t T TF.qS with
  |some n=>(match evC e x with
   |some (.ptr id k i off)=>(match hgC hp id with
    |some (.arr ty k2 rows)=>(match Nat.beq k k2,lgt rows i with
     |true,some row=>(match evC e y with
      |some v=>(match vcC v with
       |some cs=>(match z8c n cs&&w2w cs&&Nat.ble (off+n) row.length with
        |true=>some (id,.arr ty k (rows.set i (row.take off++cs++row.drop (off+n))))
        |false=>none)
       |none=>none)
      |none=>none)
     |_,_=>none)
    |_=>none)
   |_=>none)
  |none=>none)
 |_=>none
theorem w9z{op:Op}{ty:TypeId}{pos:String}{after:Array Edge}{g:Option (Nat×Bool)}(ht:q7p K.P t){e:Env}{hp:q8d}(ha:Ag e S)(hh:AgH hp S){id:Nat}{ob:Ob}(h:stoR t e hp op=some (id,ob))(hw:q2d ops S ⟨none,op,ty,pos,after,g⟩ true)
  (k:q1d K ops rest Q ⟨S.env,(id,ob)::S.hp,S.nx⟩):q1d K ops (⟨none,op,ty,pos,after,g⟩::rest) Q S:=by
 unfold stoR at h;split at h
 ·split at h
  ·rename_i n hn;split at h
   ·rename_i hx;split at h
    ·rename_i ho;split at h
     ·rename_i row hk hr;have hk:=co9 hk;subst hk;split at h
      ·rename_i v hy;split at h
       ·rename_i cs hc;split at h
        ·rename_i hb;simp only[as9] at hb;have hl:=q1p hb.1.1;subst hl;simp at h;obtain⟨rfl,rfl⟩:=h;exact q0u cs _ (askS ht hn) hw (q0d ha hx) (q0d ha hy) (j4s hc) (z8s hb.1.2) (hh _ _ ho) (q7s hr) hb.2 (by simp) k
        ·simp at h
       ·simp at h
      ·simp at h
     ·simp at h
    ·simp at h
   ·simp at h
  ·simp at h
 ·simp at h
def v6b(t:TT)(mt:List MT)(e:Env)(hp:q8d)(nx:Nat):Op->Option (V×q8d×Nat)
 | .indexAddr T x y=>(match ask t T TF.qSl with
  |some k=>(match evC e x with
   |some (.own id len)=>(match evC e y with
    |some (.con (.int _ n))=>(match n with
     | .ofNat j=>(match Nat.blt j len with|true=>some (.ptr id k j 0,[],0)|false=>none)
     |_=>none)
    |_=>none)
   |_=>none)
  |none=>none)
 | .build T parts=>(match ask t T TF.qArr with
  |some (_,k)=>(match ask t T TF.qZ with
   |some (_,zs)=>(match evP e parts.toList with
    |some ps=>(match z1p (fun i=>some (i*k,k)) (zs.map .con) ps with|some cs=>some (.agg cs,[],0)|none=>none)
    |none=>none)
   |none=>none)
  |none=>none)
 | .index T x y=>(match evC e x with
  |some (.agg cs)=>(match evC e y with
   |some (.con (.int _ n))=>(match n with
    | .ofNat j=>(match ask t T TF.qAA with
     |some (n,k,_)=>(match Nat.blt j n&&z8c (n*k) cs with|true=>some (.agg ((cs.drop (j*k)).take k),[],0)|false=>none)
     |none=>(match ask t T TF.qAC with
      |some (n,_)=>(match Nat.blt j n,lgt cs j with|true,some c=>some (c,[],0)|_,_=>none)
      |none=>none))
    |_=>none)
   |_=>none)
  |_=>(match ask t T TF.qStr with
  |some _=>(match evC e x with
   |some (.con (.string b))=>(match evC e y with
    |some (.con (.int _ n))=>(match n with
     | .ofNat j=>(match lgt (j8t b) j with|some c=>some (.con (.int .u8 c.toNat),[],0)|none=>none)
     |_=>none)
    |_=>none)
   |_=>none)
  |none=>none))
 | .slice T x lo hi mx=>(match mx with
  |some _=>none
  |none=>(match evC e x with
   |some (.con (.string b))=>(match ask t T TF.qStr with
    |some _=>(match y6d e 0 lo with
     |some a0=>(match y6d e (j8t b).length hi with
      |some b0=>(match Nat.ble a0 b0&&Nat.ble b0 (j8t b).length with|true=>some (.con (str (((j8t b).drop a0).take (b0 - a0))),[],0)|false=>none)
      |none=>none)
     |none=>none)
    |none=>none)
   |some (.own id n)=>(match ask t T TF.qSl with
    |some k=>(match hgC hp id with
     |some (.arr ety k2 rows)=>(match Nat.beq k k2&&Nat.beq n rows.length&&ndR rows with
      |true=>(match lo with
       |none=>(match y6d e n hi with
        |some b0=>(match Nat.ble b0 n with|true=>some (.own id b0,[],0)|false=>none)
        |none=>none)
       |some _=>(match y6d e 0 lo with
        |some a0=>(match y6d e n hi with
         |some b0=>(match Nat.ble a0 b0&&Nat.ble b0 n with|true=>some (.own nx (b0 - a0),[(nx,.arr ety k (rows.drop a0)),(id,.dead)],1)|false=>none)
         |none=>none)
        |none=>none))
      |false=>none)
     |_=>none)
    |none=>none)
   |_=>none))
 | .binOp bop T x y T'=>(match evC e x,evC e y with
  |some (.con (.string a)),some (.con (.string b))=>(match y6s bop (j8t a) (j8t b) with|some v=>some (.con v,[],0)|none=>none)
  |some v,some (.con (.slice none 0 0))=>(match ask t T TF.qSn,v with
   |some _,.own _ n=>(match n with
    |0=>none
    |_+1=>(match bop with | .eql=>some (.con (.bool false),[],0) | .neq=>some (.con (.bool true),[],0)|_=>none))
   |_,_=>none)
  |some v,some (.con (.map none))=>(match ask t T TF.qMn,v2y v with
   |some _,some b=>(match bop with | .eql=>some (.con (.bool b),[],0) | .neq=>some (.con (.bool (!b)),[],0)|_=>none)
   |_,_=>none)
  |_,_=>none)
 | .makeFunc fn first caps=>(match fn,first.toList,caps.toList with
  | .method name,[x],[]=>(match evC e x with|some (.con (.iface T v))=>some (.con (.func (.method name) #[.iface T v] #[]),[],0)|_=>none)
  |_,_,_=>none)
 | .nilCheck x=>(match evC e x with
  |some (.con (.func (.method name) first caps))=>(match first.toList,caps.toList with
   |[.iface T v],[]=>(match ask t T (TF.qM name) with|some _=>some (.con (.func (.method name) #[.iface T v] #[]),[],0)|none=>none)
   |_,_=>none)
  |_=>none)
 | .makeInterface T x=>(match ask t T TF.qCn with
  |some _=>(match evC e x with
   |some v=>(match w9v 8 v with|some c=>some (.con (.iface T c),[],0)|none=>none)
   |none=>none)
  |none=>none)
 | .buildSlice T n parts=>(match ask t T TF.qEl with
  |some (ety,k,_)=>(match n with
   |0=>(match parts.toList with|[]=>some (.own nx 0,[(nx,.arr ety k [])],1)|_=>none)
   |n'+1=>(match ask t ety TF.qZ with
    |some (_,zs)=>(match evP e parts.toList with
     |some ps=>(match z1p (fun i=>some (i*k,k)) (((List.range ((n'+1)*k)).map fun i=>zs.getD (i % k) undef).map .con) ps with
      |some cs=>(match Nat.beq cs.length ((n'+1)*k)&&rowsK k (w6o k (n'+1) cs)&&Nat.blt 0 k&&Nat.ble ((n'+1)*k) 16777216 with
       |true=>some (.own nx (n'+1),[(nx,.arr ety k (w6o k (n'+1) cs))],1)
       |false=>none)
      |none=>none)
     |none=>none)
    |none=>none))
  |none=>none)
 | .makeSlice T x y=>(match ask t T TF.qEl with
  |some (ety,k,bytes)=>(match ask t ety TF.qZ with
   |some (_,zs)=>(match x,y with
    | .tmp a,.tmp b=>(match Nat.beq a b,evC e x with
     |true,some (.con (.int .i64 n))=>(match n with
      | .ofNat j=>(match Nat.ble (bytes*j) 140737488355328&&Nat.ble j 140737488355328&&Nat.blt 0 k with
       |true=>some (.own nx j,[(nx,.arr ety k (List.replicate j (zs.map .con)))],1)
       |false=>none)
      |_=>none)
     |_,_=>none)
    |_,_=>none)
   |none=>none)
  |none=>none)
 | .lookup T x y ok=>(match mtf mt T with
  |some p=>(match evC e x with
   |some (.map id)=>(match hgC hp id with
    |some (.map es)=>(match evC e y with
     |some (.con kv)=>(match v6p p.txt p.ik kv&&y3t p.txt p.ik es with
      |true=>(match v5y kv es with
       |some r=>(match (r.getD p.z).deep with
        |false=>(match ok with
         |true=>some (.tup [r.getD p.z,.con (.bool r.isSome)],[],0)
         |false=>some (r.getD p.z,[],0))
        |true=>none)
       |none=>none)
      |false=>none)
     |_=>none)
    |_=>none)
   |_=>none)
  |none=>none)
 | .call c=>(match c.callee,c.args.toList,c.argTypes.toList with
  | .builtin .append,[x,y],[T,T']=>(match ask t T TF.qEl,ask t T' TF.qSn with
   |some (ety,k,bytes),some _=>(match Nat.blt 0 bytes&&Nat.blt 0 k with
    |true=>(match evC e x with
     |some (.own id n)=>(match hgC hp id with
      |some (.arr e2 k2 rows)=>(match Nat.beq ety e2&&Nat.beq k k2&&Nat.beq rows.length n with
       |true=>(match evC e y with
        |some (.own id2 n2)=>(match hgC hp id2 with
         |some (.arr _ k3 rows2)=>(match Nat.beq k3 k&&Nat.beq rows2.length n2&&ndR rows2&&Nat.ble ((n+n2)*bytes) 140737488355328 with
          |true=>some (.own nx (n+n2),[(nx,.arr ety k (rows++rows2)),(id,.dead)],1)
          |false=>none)
         |_=>none)
        |some (.con (.slice none 0 0))=>(match Nat.ble (n*bytes) 140737488355328 with
         |true=>some (.own nx n,[(nx,.arr ety k rows),(id,.dead)],1)
         |false=>none)
        |_=>none)
       |false=>none)
      |_=>none)
     |_=>none)
    |false=>none)
   |_,_=>none)
  |_,_,_=>none)
 |_=>none
theorem j4i{α:Type}{a:Array α}{l:List α}(h:a.toList=l):a=l.toArray:=by cases a;simp at h;subst h;rfl
section
variable{op:Op}{ty:TypeId}{pos:String}{after:Array Edge}{g:Option (Nat×Bool)}
theorem v6w(ht:q7p K.P t){mt:List MT}(hmt:w8e K.P mt){d:Nat}{e:Env}{hp u:q8d}{nx q:Nat}{v:V}(ha:Ag e S)(hh:AgH hp S)(hnx:S.nx=nx)(h:v6b t mt e hp nx op=some (v,u,q))(hw:q2d ops S ⟨some d,op,ty,pos,after,g⟩ true)(hN:Nat.blt d K.N=true)
  (k:q1d K ops rest Q ⟨(d,v)::S.env,u++S.hp,S.nx+q⟩):q1d K ops (⟨some d,op,ty,pos,after,g⟩::rest) Q S:=by
 subst hnx;cases op with
 |indexAddr T x y=>
  simp only[v6b] at h;split at h
  ·rename_i kk hk;split at h
   ·rename_i hx;split at h
    ·rename_i hy;split at h
     ·rename_i j;split at h
      ·rename_i hb;simp only[az9,Prod.mk.injEq] at h;obtain⟨rfl,rfl,rfl⟩:=h;exact z7j (w6d ht hk) hw (q0d ha hx) (q0d ha hy) (Int.natCast_nonneg j) (az8 hb) hN k
      ·simp at h
     ·simp at h
    ·simp at h
   ·simp at h
  ·simp at h
 |build T parts=>
  simp only[v6b] at h;split at h
  ·rename_i hA;split at h
   ·rename_i hz;split at h
    ·rename_i ps hps;split at h
     ·rename_i cs hcs;obtain⟨z1,z2,z3⟩:=w6p ht hz;simp only[az9,Prod.mk.injEq] at h;obtain⟨rfl,rfl,rfl⟩:=h;exact z1l ps cs z1 (w1w ht hA) z3 hw (j3x ha hps) hcs hN k
     ·simp at h
    ·simp at h
   ·simp at h
  ·simp at h
 |index T x y=>
  simp only[v6b] at h;split at h
  ·rename_i cs hx;split at h
   ·rename_i hy;split at h
    ·rename_i j;split at h
     ·rename_i n kk _ hT;split at h
      ·rename_i hb;simp only[as9] at hb;simp only[az9,Prod.mk.injEq] at h;obtain⟨rfl,rfl,rfl⟩:=h;exact z0l _ (askAA ht hT) hw (q0d ha hx) (q0d ha hy) ⟨Int.natCast_nonneg j,az8 hb.1⟩ (q1p hb.2) rfl hN k
      ·simp at h
     ·split at h
      ·rename_i hT;split at h
       ·rename_i c hb hc;simp only[az9,Prod.mk.injEq] at h;obtain⟨rfl,rfl,rfl⟩:=h;exact j5y c (askAC ht hT) hw (q0d ha hx) (q0d ha hy) ⟨Int.natCast_nonneg j,az8 hb⟩ (q7s hc) hN k
       ·simp at h
      ·simp at h
    ·simp at h
   ·simp at h
  ·split at h
   ·rename_i hk;split at h
    ·rename_i b hx;split at h
     ·rename_i hy;split at h
      ·rename_i j;split at h
       ·rename_i c hc;simp only[az9,Prod.mk.injEq] at h;obtain⟨rfl,rfl,rfl⟩:=h;exact j9c (l:=j8t b) c (v5m ht hk) hw (by rw[q0d ha hx,q1t]) (q0d ha hy) (Int.natCast_nonneg j) (q7s hc) hN k
       ·simp at h
      ·simp at h
     ·simp at h
    ·simp at h
   ·simp at h
 |slice T x lo hi mx=>
  simp only[v6b] at h;split at h
  ·simp at h
  ·split at h
   ·rename_i b hx;split at h
    ·rename_i hk;split at h
     ·rename_i a0 h0;split at h
      ·rename_i b0 h1;split at h
       ·rename_i hb;simp only[as9] at hb;simp only[az9,Prod.mk.injEq] at h;obtain⟨rfl,rfl,rfl⟩:=h;have e0:=j7b (K:=K) ha h0;have e1:=j7b (K:=K) ha h1;exact z9k (l:=j8t b) a0 b0 _ (v5m ht hk) hw (by rw[q0d ha hx,q1t]) (by cases lo<;>exact e0) (by cases hi<;>exact e1) (az8 hb.1) (az8 hb.2) rfl hN k
       ·simp at h
      ·simp at h
     ·simp at h
    ·simp at h
   ·rename_i id n hx;split at h
    ·rename_i kk hk;split at h
     ·rename_i ety k2 rows ho;split at h
      ·rename_i hb;simp only[as9] at hb;have e1:=co9 hb.1.1;have e2:=co9 hb.1.2;subst e1;split at h
       ·split at h
        ·rename_i b0 h1;split at h
         ·rename_i hb2;simp only[az9,Prod.mk.injEq] at h;obtain⟨rfl,rfl,rfl⟩:=h;exact z8w (w6d ht hk) hw (q0d ha hx) (hh _ _ ho) (Nat.le_of_eq e2) (j7b ha h1) (az8 hb2) hN k
         ·simp at h
        ·simp at h
       ·split at h
        ·rename_i a0 h0;split at h
         ·rename_i b0 h1;split at h
          ·rename_i hb2;simp only[as9] at hb2;simp only[az9,Prod.mk.injEq] at h;obtain⟨rfl,rfl,rfl⟩:=h;exact z5j a0 b0 _ (w6d ht hk) hw (q0d ha hx) (hh _ _ ho) e2 rfl (j7b ha h0) (j7b ha h1) (az8 hb2.1) (az8 hb2.2) rfl (j3v hb.2) hN k
          ·simp at h
         ·simp at h
        ·simp at h
      ·simp at h
     ·simp at h
    ·simp at h
   ·simp at h
 |binOp bop T x y T'=>
  simp only[v6b] at h;split at h
  ·rename_i a b hx hy;split at h
   ·rename_i v hv;simp only[az9,Prod.mk.injEq] at h;obtain⟨rfl,rfl,rfl⟩:=h;exact z1q v hw (by rw[q0d ha hx,q1t]) (by rw[q0d ha hy,q1t]) hv hN k
   ·simp at h
  ·rename_i v _ hx hy;split at h
   ·rename_i id n hk;split at h
    ·simp at h
    ·split at h
     ·simp only[az9,Prod.mk.injEq] at h;obtain⟨rfl,rfl,rfl⟩:=h;exact z6s false (z0s ht hk) hw (q0d ha hx) (q0d ha hy) rfl hN (fun b hb=>by rw[hb (Nat.succ_ne_zero _)];exact k)
     ·simp only[az9,Prod.mk.injEq] at h;obtain⟨rfl,rfl,rfl⟩:=h;exact z6s true (z0s ht hk) hw (q0d ha hx) (q0d ha hy) rfl hN (fun b hb=>by rw[hb (Nat.succ_ne_zero _)];exact k)
     ·simp at h
   ·simp at h
  ·rename_i v _ hx hy;split at h
   ·rename_i b hk hb;split at h
    ·simp only[az9,Prod.mk.injEq] at h;obtain⟨rfl,rfl,rfl⟩:=h;exact j3d false (y9s ht hk) hw (q0d ha hx) hb (q0d ha hy) hN k
    ·simp only[az9,Prod.mk.injEq] at h;obtain⟨rfl,rfl,rfl⟩:=h;exact j3d true (y9s ht hk) hw (q0d ha hx) hb (q0d ha hy) hN k
    ·simp at h
   ·simp at h
  ·simp at h
 |makeFunc fn first caps=>
  simp only[v6b] at h;split at h
  ·rename_i name x hf1 hc1;have hf1:=q0q hf1;have hc1:=q7x hc1;subst hf1 hc1;split at h
   ·rename_i hx;simp only[az9,Prod.mk.injEq] at h;obtain⟨rfl,rfl,rfl⟩:=h;exact v3g hw (q0d ha hx) hN k
   ·simp at h
  ·simp at h
 |nilCheck x=>
  simp only[v6b] at h;split at h
  ·rename_i name first caps hx
   split at h
   ·rename_i T v hf1 hc1;have hf1:=q0q hf1;have hc1:=q7x hc1;subst hf1 hc1;split at h
    ·rename_i hm;simp only[az9,Prod.mk.injEq] at h;obtain⟨rfl,rfl,rfl⟩:=h;exact j0y (askM ht hm).2 hw (q0d ha hx) hN k
    ·simp at h
   ·simp at h
  ·simp at h
 |makeInterface T x=>
  simp only[v6b] at h;split at h
  ·rename_i hk;split at h
   ·rename_i hx;split at h
    ·rename_i hc;simp only[az9,Prod.mk.injEq] at h;obtain⟨rfl,rfl,rfl⟩:=h;exact j1y (askCn ht hk) hw (q0d ha hx) hc hN k
    ·simp at h
   ·simp at h
  ·simp at h
 |buildSlice T n parts=>
  simp only[v6b] at h;split at h
  ·rename_i ety kk bytes hT;split at h
   ·split at h
    ·rename_i hp0;have:=j4i hp0;subst this;simp only[az9,Prod.mk.injEq] at h;obtain⟨rfl,rfl,rfl⟩:=h;exact z0f (z7w ht hT) hw hN k
    ·simp at h
   ·rename_i n';split at h
    ·rename_i zs hz;split at h
     ·rename_i ps hps;split at h
      ·rename_i cs hcs;split at h
       ·rename_i hb;simp only[as9] at hb;have e1:=co9 hb.1.1.1;obtain⟨z1,z2,z3⟩:=w6p ht hz;simp only[az9,Prod.mk.injEq] at h;obtain⟨rfl,rfl,rfl⟩:=h;exact q5b ps _ (z7w ht hT) z1 z3 hb.1.2 rfl hb.2 hw (j3x ha hps) (by rw[j3b _ _ e1];exact hcs) (j2p _ _) (j8m hb.1.1.2) hN k
       ·simp at h
      ·simp at h
     ·simp at h
    ·simp at h
  ·simp at h
 |makeSlice T x y=>
  simp only[v6b] at h;split at h
  ·rename_i ety kk bytes hT;split at h
   ·rename_i zs hz;split at h
    ·rename_i a b;split at h
     ·rename_i n hab hx;have hab:=co9 hab;subst hab;split at h
      ·rename_i j;split at h
       ·rename_i hb;simp only[as9] at hb;obtain⟨z1,z2,z3⟩:=w6p ht hz;simp only[az9,Prod.mk.injEq] at h;obtain⟨rfl,rfl,rfl⟩:=h;have b1:=az8 hb.1.1;have b2:=az8 hb.1.2;have c1:((bytes*j:Nat):Int)<=((140737488355328:Nat):Int):=Int.ofNat_le.2 b1;have c2:((j:Nat):Int)<=((140737488355328:Nat):Int):=Int.ofNat_le.2 b2;rw[Int.natCast_mul] at c1;exact q1x _ (z7w ht hT) z1 z3 hb.2 ⟨Int.natCast_nonneg j,c1,c2⟩ rfl rfl hw (q0d ha hx) hN k
       ·simp at h
      ·simp at h
     ·simp at h
    ·simp at h
   ·simp at h
  ·simp at h
 |lookup T x y ok=>
  simp only[v6b] at h;split at h
  ·rename_i p hp0;obtain⟨hm,hTe⟩:=v6x hmt hp0;subst hTe;obtain⟨zv,hz1,hz2⟩:=hm.h3;split at h
   ·rename_i id hx;split at h
    ·rename_i es ho;split at h
     ·rename_i kv hy;split at h
      ·rename_i hb;simp only[as9] at hb;split at h
       ·rename_i r hr;split at h
        ·rename_i hdp;split at h
         ·simp only[az9,Prod.mk.injEq] at h;obtain⟨rfl,rfl,rfl⟩:=h;exact j6c r p.z _ hm.h1 hm.h2 hz1 hz2 hw (q0d ha hx) (.own (hh _ _ ho)) (.con (q0d ha hy)) (z3y hb.1) (j2q hb.2) (j6n hr) rfl rfl hN k hdp
         ·simp only[az9,Prod.mk.injEq] at h;obtain⟨rfl,rfl,rfl⟩:=h;exact q1j r p.z _ hm.h1 hm.h2 hz1 hz2 hw (q0d ha hx) (.own (hh _ _ ho)) (.con (q0d ha hy)) (z3y hb.1) (j2q hb.2) (j6n hr) rfl hN k hdp
        ·simp at h
       ·simp at h
      ·simp at h
     ·simp at h
    ·simp at h
   ·simp at h
  ·simp at h
 |call c=>
  obtain⟨callee,args,at'⟩:=c;simp only[v6b] at h;split at h
  ·rename_i x y T T' _ hargs hats;have hargs:=q6m hargs;have hats:=q6m hats;subst hargs;subst hats;split at h
   ·rename_i ety kk bytes _ hT hT';split at h
    ·rename_i hb0;simp only[as9] at hb0;split at h
     ·rename_i id n hx;split at h
      ·rename_i rows ho;split at h
       ·rename_i hb;simp only[as9] at hb;have e1:=co9 hb.1.1;have e2:=co9 hb.1.2;have e3:=co9 hb.2;subst e1;subst e2;split at h
        ·rename_i id2 n2 hy;split at h
         ·rename_i k3 rows2 ho2;split at h
          ·rename_i hb2;simp only[as9] at hb2;have e4:=co9 hb2.1.1.1;have e5:=co9 hb2.1.1.2;subst e4;simp only[az9,Prod.mk.injEq] at h;obtain⟨rfl,rfl,rfl⟩:=h
           exact z2l rows2 _ (z7w ht hT) (z0s ht hT') hb0.1 hb0.2 hw (q0d ha hx) (hh _ _ ho) e3 (q0d ha hy) (.own (hh _ _ ho2) e5 (fun row hr c hc=>by
            obtain⟨j,hj⟩:=be8 hc;exact z9n (j3v hb2.1.2 row hr) hj)) rfl (by rw[bj8,e3,e5]) (az8 hb2.2) hN k
          ·simp at h
         ·simp at h
        ·rename_i hy;split at h
         ·rename_i hb2;simp only[az9,Prod.mk.injEq] at h;obtain⟨rfl,rfl,rfl⟩:=h;exact z2l [] _ (z7w ht hT) (z0s ht hT') hb0.1 hb0.2 hw (q0d ha hx) (hh _ _ ho) e3 (q0d ha hy) .nil (aa8 _) e3 (az8 hb2) hN k
         ·simp at h
        ·simp at h
       ·simp at h
      ·simp at h
     ·simp at h
    ·simp at h
   ·simp at h
  ·simp at h
 |_=>simp[v6b] at h
end
def apN(t:TT)(d:Nat)(e:Env)(hp:q8d)(nx:Nat):Op->Option (Env×q8d)
 | .call c=>(match c.callee,c.args.toList,c.argTypes.toList with
  | .builtin .append,[.tmp a,y],[T,T']=>(match gtC e a with
   |some (.con (.slice none 0 0))=>(match ask t T TF.qEl,ask t T' TF.qSn with
    |some (ety,k,bytes),some _=>(match Nat.blt 0 bytes&&Nat.blt 0 k with
     |true=>(match evC ((a,.own nx 0)::e) y with
      |some (.own id2 n2)=>(match hgC ((nx,.arr ety k [])::hp) id2 with
       |some (.arr _ k3 rows2)=>(match Nat.beq k3 k&&Nat.beq rows2.length n2&&ndR rows2&&Nat.ble (n2*bytes) 140737488355328 with
        |true=>some ([(d,.own (nx+1) n2),(a,.own nx 0)],[(nx+1,.arr ety k rows2),(nx,.dead)])
        |false=>none)
       |_=>none)
      |_=>none)
     |false=>none)
    |_,_=>none)
   |_=>none)
  |_,_,_=>none)
 |_=>none
theorem y1t{op:Op}{ty:TypeId}{pos:String}{after:Array Edge}{g:Option (Nat×Bool)}(ht:q7p K.P t){d:Nat}{e:Env}{hp:q8d}{nx:Nat}{ue:Env}{uh:q8d}(h:apN t d e hp nx op=some (ue,uh))(hg:g=none)(hN:Nat.blt d K.N=true)
    (k:q1d K ops rest Q ⟨ue++e,uh++hp,nx+2⟩):q1d K ops (⟨some d,op,ty,pos,after,g⟩::rest) Q ⟨e,hp,nx⟩:=by
  subst hg;cases op<;>simp only[apN,reduceCtorEq] at h;rename_i c;obtain⟨callee,args,at'⟩:=c;simp only at h;split at h
  · rename_i a y T T' hargs hats
    have hargs:=q6m hargs;have hats:=q6m hats;subst hargs;subst hats;split at h
    · rename_i hx
      split at h
      · rename_i ety kk bytes _ hT hT'
        split at h
        · rename_i hb0
          simp only[as9] at hb0;split at h
          · rename_i id2 n2 hy
            split at h
            · rename_i k3 rows2 ho2
              split at h
              · rename_i hb2
                simp only[as9] at hb2;have e4:=co9 hb2.1.1.1;have e5:=co9 hb2.1.1.2;subst e4;simp only[az9,Prod.mk.injEq] at h;obtain⟨rfl,rfl⟩:=h;refine q7d (q3q (S:=⟨e,hp,nx⟩) a ety k3 (q4p hx)) ?_
                let S2:St:=⟨(a,.own nx 0)::e,(nx,.arr ety k3 [])::hp,nx+1⟩
                have hex:evl K S2 (.tmp a)=.own nx 0:=by show get ((a,.own nx 0)::e) a=_;rw[q4k,if_pos rfl]
                have hho:q7b S2.hp nx=.arr ety k3 []:=by show q7b ((nx,.arr ety k3 [])::hp) nx=_;rw[q0b,if_pos rfl]
                refine z2l (S:=S2) rows2 _ (z7w ht hT) (z0s ht hT') hb0.1 hb0.2 rfl hex hho rfl (q0d (agE (S:=S2)) hy) (.own (q8v ho2) e5 (fun row hr c hc=>by
                        obtain⟨j,hj⟩:=be8 hc;exact z9n (j3v hb2.1.2 row hr) hj)) (ad8 _) e5 (az8 hb2.2) hN ?_
                have gh:q4e K ⟨(d,.own S2.nx n2)::S2.env,(S2.nx,.arr ety k3 rows2)::(nx,.dead)::S2.hp,S2.nx+1⟩ ⟨[(d,.own (nx+1) n2),(a,.own nx 0)]++e,[(nx+1,.arr ety k3 rows2),(nx,.dead)]++hp,nx+2⟩:=by
                  refine fun m β _ _ r=>⟨m,β,r.congr (fun _=>rfl) (fun t=>?_) rfl⟩
                  show q7b ((nx+1,.arr ety k3 rows2)::(nx,.dead)::hp) t=q7b ((nx+1,.arr ety k3 rows2)::(nx,.dead)::(nx,.arr ety k3 [])::hp) t
                  rw[q0b,q0b,q0b,q0b,q0b];split
                  · rfl
                  · split<;>rfl
                exact q7d gh k
              · simp at h
            · simp at h
          · simp at h
        · simp at h
      · simp at h
    · simp at h
  · simp at h
end
section
variable{K:Ctx}{Q:q5l}{S S':St}{ops:Array Oper}{rest:List Oper}{t:TT}
def v4o:Env->Env->Env
 |[],e=>e
 |(i,o)::u,e=>v9v i o (v4o u e)
theorem j1b:∀(u e:Env) (t:Nat),get (v4o u e) t=get (u++e) t
 |[],e,t=>rfl
 |(i,o)::u,e,t=>by
  show get (v9v i o (v4o u e)) t=get ((i,o)::(u++e)) t
  rw[z7o,q4k,q4k,j1b u e]
def j5u:q8d->q8d->q8d
 |[],hp=>hp
 |(i,o)::u,hp=>v5s i o (j5u u hp)
theorem z2h:∀(u hp:q8d) (t:Nat),q7b (j5u u hp) t=q7b (u++hp) t
 |[],hp,t=>rfl
 |(i,o)::u,hp,t=>by
  show q7b (v5s i o (j5u u hp)) t=q7b ((i,o)::(u++hp)) t
  rw[z0e,q0b,q0b,z2h u hp]
def j1q(f:V->Bool):List V->Bool
 |[]=>true
 |x::l=>bif f x then j1q f l else false
def w3a:Nat->V->Bool
 |0,_=>false
 |n+1,v=>(match v with
  | .con _=>true
  | .agg cs=>j1q (w3a n) cs
  | .tup cs=>j1q (w3a n) cs
  | .fn _ a b=>j1q (w3a n) a&&j1q (w3a n) b
  |_=>false)
theorem z5l{f:V->Bool}:∀{l:List V},j1q f l=true->∀x,x∈l->f x=true
 |[],_,x,hx=>by simp at hx
 |y::l,h,x,hx=>by
  simp only[j1q] at h;cases hb:f y with
  |true=>
   rw[hb] at h;simp at h;rcases at8.1 hx with rfl|hx
   ·exact hb
   ·exact z5l h x hx
  |false=>rw[hb] at h;simp at h
theorem z2k:∀{n:Nat} {v:V},w3a n v=true->∀{m:Mem} {β:q4h} {x:Value},q8i m β v x->q1l m v x
 |0,v,h=>by simp[w3a] at h
 |n+1,v,h=>by
  intro hv;cases hv with
  |imm h=>exact h
  |agg hl hh=>
   simp only[w3a] at h;exact .agg hl fun i c v a b=>z2k (z5l h c (ba9 a)) (hh i c v a b)
  |tup hl hh=>
   simp only[w3a] at h;exact .tup hl fun i c v a b=>z2k (z5l h c (ba9 a)) (hh i c v a b)
  |fn hl hl' h1 h2=>
   simp only[w3a,as9] at h;exact .fn hl hl' (fun i c v a b=>z2k (z5l h.1 c (ba9 a)) (h1 i c v a b)) (fun i c v a b=>z2k (z5l h.2 c (ba9 a)) (h2 i c v a b))
  |_=>simp[w3a] at h
def y9p(v:V):Bool:=w3a 12 v
theorem v8j{gl:Gl}{P:Program}{f:FuncId}{avs:List V}{v:V}{k':Nat}{hp':q8d}(h:z9y gl P f avs 0 [] v k' hp')(hv:y9p v=true):q5s gl P f avs v:=by
 intro m w vs himm hgl hargs
 let β:q4h:=⟨fun _=>none,fun _ _=>False⟩
 refine(h m β w vs himm hgl ⟨hargs.len,fun i c v a b=>.imm (hargs.at' i c v a b)⟩ (fun id=>trivial) (fun id b cap hl=>absurd rfl hl) (fun id id' b cap cap' hl=>absurd rfl hl) (fun id x hl=>absurd rfl hl) (fun _ _=>rfl)).mono ?_
 rintro e w' ⟨x,m',β',rfl,hx,g⟩
 have hF:∀b,q9m [] β b:=fun b id hl=>absurd rfl hl;exact⟨x,m',rfl,z2k hv hx,g.le,g.imm,fun b hb=>(g.old b hb (hF b)).1,fun b hb=>(g.old b hb (hF b)).2,g.size,g.same⟩
def opX2:Op->List Operand
 | .slice _ x lo hi _=>x::(lo.toList++hi.toList)
 | .lookup _ x y _=>[x,y]
 | .mapUpdate _ x y z=>[x,y,z]
 | .insert _ x y z=>[x,y,z]
 | .buildSlice _ _ ps=>ps.toList.map (·.2)
 | .makeSlice _ x _=>[x]
 | .box _ x=>[x]
 | .makeFunc _ fs cs=>fs.toList++cs.toList
 | .makeInterface _ x=>[x]
 | .call c=>(match c.callee with | .invoke r _=>r::c.args.toList|_=>opX (.call c))
 |op=>opX op
def rdO2(ops:Array Oper)(o:Oper)(e:Env):Option Env:=match grd ops o (tps (opX2 o.op)) with|some l=>rdC e l|none=>none
theorem y4a{o:Oper}{e re:Env}(h:rdO2 ops o e=some re):RdE e re:=by
 unfold rdO2 at h;split at h
 ·exact v7v h
 ·simp at h
def hrY(e:Env)(hp:q8d)(x:Operand)(l:q8d):Option q8d:=
 match evC e x with
 |some (.ptr id _ _ _)=>(match hgC hp id with|some ob=>some ((id,ob)::l)|none=>none)
 |some (.own id _)=>(match hgC hp id with|some ob=>some ((id,ob)::l)|none=>none)
 |some (.map id)=>(match hgC hp id with|some ob=>some ((id,ob)::l)|none=>none)
 |some _=>some l
 |none=>none
theorem y1q{e:Env}{hp l rh:q8d}{x:Operand}(hl:RdH hp l)(h:hrY e hp x l=some rh):RdH hp rh:=by
 unfold hrY at h;split at h
 ·split at h
  ·rename_i ho;simp at h;subst h;exact⟨q8v ho,hl⟩
  ·simp at h
 ·split at h
  ·rename_i ho;simp at h;subst h;exact⟨q8v ho,hl⟩
  ·simp at h
 ·split at h
  ·rename_i ho;simp at h;subst h;exact⟨q8v ho,hl⟩
  ·simp at h
 ·simp at h;subst h;exact hl
 ·simp at h
def hrL(e:Env)(hp:q8d):List Operand->q8d->Option q8d
 |[],l=>some l
 |x::xs,l=>match hrY e hp x l with|some l=>hrL e hp xs l|none=>none
theorem w2v{e:Env}{hp rh:q8d}:∀{xs:List Operand} {l:q8d},RdH hp l->hrL e hp xs l=some rh->RdH hp rh
 |[],l,hl,h=>by simp[hrL] at h;subst h;exact hl
 |x::xs,l,hl,h=>by
  simp only[hrL] at h;split at h
  ·rename_i q hq;exact w2v (y1q hl hq) h
  ·simp at h
def hrO:Op->List Operand
 | .load _ x=>[x]
 | .store _ x _=>[x]
 | .lookup _ x _ _=>[x]
 | .slice _ x _ _ _=>[x]
 | .mapUpdate _ x _ _=>[x]
 | .insert _ x _ _=>[x]
 | .call c=>(match c.callee with | .builtin .append=>c.args.toList|_=>[])
 |_=>[]
def alY(t:TT)(e:Env)(id:Nat):Op->Option (V×Ob)
 | .alloc T=>(match ask t T TF.qZ with
  |some (n,zs)=>some (.ptr id n 0 0,.arr T n [zs.map .con])
  |none=>none)
 | .box T x=>(match ask t T TF.qS with
  |some n=>(match evC e x with
   |some v=>(match vcC v with
    |some cs=>(match z8c n cs&&w2w cs with|true=>some (.ptr id n 0 0,.arr T n [cs])|false=>none)
    |none=>none)
   |none=>none)
  |none=>none)
 | .makeMap _ r=>(match r with|none=>some (.map id,.map [])|some _=>none)
 | .buildSlice T n parts=>(match ask t T TF.qEl with
  |some (ety,k,_)=>(match n with
   |0=>(match parts.toList with|[]=>some (.own id 0,.arr ety k [])|_=>none)
   |n'+1=>(match ask t ety TF.qZ with
    |some (_,zs)=>(match evP e parts.toList with
     |some ps=>(match z1p (fun i=>some (i*k,k)) (((List.range ((n'+1)*k)).map fun i=>zs.getD (i % k) undef).map .con) ps with
      |some cs=>(match Nat.beq cs.length ((n'+1)*k)&&rowsK k (w6o k (n'+1) cs)&&Nat.blt 0 k&&Nat.ble ((n'+1)*k) 16777216 with
       |true=>some (.own id (n'+1),.arr ety k (w6o k (n'+1) cs))
       |false=>none)
      |none=>none)
     |none=>none)
    |none=>none))
  |none=>none)
 | .makeSlice T x y=>(match ask t T TF.qEl with
  |some (ety,k,bytes)=>(match ask t ety TF.qZ with
   |some (_,zs)=>(match x,y with
    | .tmp a,.tmp b=>(match Nat.beq a b,evC e x with
     |true,some (.con (.int .i64 n))=>(match n with
      | .ofNat j=>(match Nat.ble (bytes*j) 140737488355328&&Nat.ble j 140737488355328&&Nat.blt 0 k with
       |true=>some (.own id j,.arr ety k (List.replicate j (zs.map .con)))
       |false=>none)
      |_=>none)
     |_,_=>none)
    |_,_=>none)
   |none=>none)
  |none=>none)
 |_=>none
theorem y4t{op:Op}{ty:TypeId}{pos:String}{after:Array Edge}{g:Option (Nat×Bool)}(ht:q7p K.P t){d id nx:Nat}{e:Env}{v:V}{ob:Ob}(ha:Ag e S)(h:alY t e id op=some (v,ob))(hid:(Nat.blt id nx&&Nat.ble K.pins id)=true)(hnx:S.nx=nx)(hres:q7b S.hp id=.res)
  (hw:q2d ops S ⟨some d,op,ty,pos,after,g⟩ true) (hN:Nat.blt d K.N=true) (k:q1d K ops rest Q ⟨(d,v)::S.env,(id,ob)::S.hp,S.nx⟩):q1d K ops (⟨some d,op,ty,pos,after,g⟩::rest) Q S:=by
 cases op with
 |alloc T=>
  simp only[alY] at h;split at h
  ·rename_i n zs hz;obtain⟨z1,z2,z3⟩:=w6p ht hz;simp only[az9,Prod.mk.injEq] at h;obtain⟨rfl,rfl⟩:=h;exact z8a id hid hnx hres z1 z2 z3 hw hN k
  ·simp at h
 |box T x=>
  simp only[alY] at h;split at h
  ·split at h
   ·rename_i hv;split at h
    ·rename_i cs hc;split at h
     ·rename_i hb;simp only[as9] at hb;have hl:=q1p hb.1;subst hl;simp only[az9,Prod.mk.injEq] at h;obtain⟨rfl,rfl⟩:=h;exact j4d id hid hnx hres cs hw (q0d ha hv) (j4s hc) (z8s hb.2) hN k
     ·simp at h
    ·simp at h
   ·simp at h
  ·simp at h
 |makeMap T r=>
  simp only[alY] at h;split at h
  ·simp only[az9,Prod.mk.injEq] at h;obtain⟨rfl,rfl⟩:=h;exact j5c id hid hnx hres hw hN k
  ·simp at h
 |buildSlice T n parts=>
  simp only[alY] at h;split at h
  ·rename_i ety kk bytes hT;split at h
   ·split at h
    ·rename_i hp0;have:=j4i hp0;subst this;simp only[az9,Prod.mk.injEq] at h;obtain⟨rfl,rfl⟩:=h;exact z9p id hid hnx hres (z7w ht hT) hw hN k
    ·simp at h
   ·rename_i n';split at h
    ·rename_i zs hz;split at h
     ·rename_i ps hps;split at h
      ·rename_i cs hcs;split at h
       ·rename_i hb;simp only[as9] at hb;have e1:=co9 hb.1.1.1;obtain⟨z1,z2,z3⟩:=w6p ht hz;simp only[az9,Prod.mk.injEq] at h;obtain⟨rfl,rfl⟩:=h;exact z0q id hid hnx hres ps _ (z7w ht hT) z1 hw z3 hb.1.2 rfl hb.2 (j3x ha hps) (by rw[j3b _ _ e1];exact hcs) (j2p _ _) (j8m hb.1.1.2) hN k
       ·simp at h
      ·simp at h
     ·simp at h
    ·simp at h
  ·simp at h
 |makeSlice T x y=>
  simp only[alY] at h;split at h
  ·rename_i ety kk bytes hT;split at h
   ·rename_i zs hz;split at h
    ·rename_i a b;split at h
     ·rename_i n hab hx;have hab:=co9 hab;subst hab;split at h
      ·rename_i j;split at h
       ·rename_i hb;simp only[as9] at hb;obtain⟨z1,z2,z3⟩:=w6p ht hz;simp only[az9,Prod.mk.injEq] at h;obtain⟨rfl,rfl⟩:=h;have b1:=az8 hb.1.1;have b2:=az8 hb.1.2;have c1:((bytes*j:Nat):Int)<=((140737488355328:Nat):Int):=Int.ofNat_le.2 b1;have c2:((j:Nat):Int)<=((140737488355328:Nat):Int):=Int.ofNat_le.2 b2;rw[Int.natCast_mul] at c1;exact z3s id hid hnx hres _ (z7w ht hT) z1 z3 hb.2 ⟨Int.natCast_nonneg j,c1,c2⟩ rfl rfl hw (q0d ha hx) hN k
       ·simp at h
      ·simp at h
     ·simp at h
    ·simp at h
   ·simp at h
  ·simp at h
 |_=>simp[alY] at h
def wrM(mt:List MT)(e:Env)(hp:q8d)(T:TypeId)(x y z:Operand):Option (Nat×Ob):=
 match mtf mt T with
 |some p=>(match evC e x with
  |some (.map id)=>(match hgC hp id with
   |some (.map es)=>(match evC e y with
    |some (.con kv)=>(match v6p p.txt p.ik kv&&y3t p.txt p.ik es with
     |true=>(match evC e z with
      |some v=>(match v8v kv v es with|some es'=>some (id,.map es')|none=>none)
      |none=>none)
     |false=>none)
    |_=>none)
   |_=>none)
  |_=>none)
 |none=>none
theorem w2r{op:Op}{T:TypeId}{x y z:Operand}(hop:op=.mapUpdate T x y z\/op=.insert T x y z){ty:TypeId}{pos:String}{after:Array Edge}{g:Option (Nat×Bool)}{mt:List MT}(hmt:w8e K.P mt){e:Env}{hp:q8d}{id:Nat}{ob:Ob}(ha:Ag e S)(hh:AgH hp S)(h:wrM mt e hp T x y z=some (id,ob))(hw:q2d ops S ⟨none,op,ty,pos,after,g⟩ true)
  (k:q1d K ops rest Q ⟨S.env,(id,ob)::S.hp,S.nx⟩):q1d K ops (⟨none,op,ty,pos,after,g⟩::rest) Q S:=by
 unfold wrM at h;split at h
 ·rename_i p hp0;obtain⟨hm,hTe⟩:=v6x hmt hp0;subst hTe;split at h
  ·rename_i id hx;split at h
   ·rename_i es ho;split at h
    ·rename_i kv hy;split at h
     ·rename_i hb;simp only[as9] at hb;split at h
      ·rename_i v hz;split at h
       ·rename_i es' hp';simp only[az9,Prod.mk.injEq] at h;obtain⟨rfl,rfl⟩:=h;exact j4c hop es' hm.h1 hm.h2 hw (q0d ha hx) (hh _ _ ho) (.con (q0d ha hy)) (z3y hb.1) (j2q hb.2) (q0d ha hz) (v0j hp') k
       ·simp at h
      ·simp at h
     ·simp at h
    ·simp at h
   ·simp at h
  ·simp at h
 ·simp at h
def wrY(t:TT)(mt:List MT)(e:Env)(hp:q8d)(op:Op):Option (Nat×Ob):=
 match op with
 | .mapUpdate T x y z=>wrM mt e hp T x y z
 | .insert T x y z=>wrM mt e hp T x y z
 |op=>stoR t e hp op
theorem w1r{op:Op}{ty:TypeId}{pos:String}{after:Array Edge}{g:Option (Nat×Bool)}(ht:q7p K.P t){mt:List MT}(hmt:w8e K.P mt){e:Env}{hp:q8d}{id:Nat}{ob:Ob}(ha:Ag e S)(hh:AgH hp S)(h:wrY t mt e hp op=some (id,ob))(hw:q2d ops S ⟨none,op,ty,pos,after,g⟩ true)
  (k:q1d K ops rest Q ⟨S.env,(id,ob)::S.hp,S.nx⟩):q1d K ops (⟨none,op,ty,pos,after,g⟩::rest) Q S:=by
 unfold wrY at h;split at h
 ·exact w2r (.inl rfl) hmt ha hh h hw k
 ·exact w2r (.inr rfl) hmt ha hh h hw k
 ·exact w9z ht ha hh h hw k
theorem w5o{e:Env}(ha:Ag e S){o:Oper}{f:Nat}{avs:List V}(h:clD e o.op=some (f,avs))(hf:q7o K.P f=true):
  ∀m β w a,Rel K m β w a S->∃vs:Array Value,(execOp a.eval o).run K.P w=.ok (.enter f vs) w/\z3x m β avs vs:=by
 obtain⟨dst,op,ty',pos,after,g⟩:=o;cases op<;>simp only[clD,reduceCtorEq] at h;rename_i c;obtain⟨callee,args,at'⟩:=c;simp only at h;split at h
 ·rename_i x;split at h
  ·rename_i first caps hx
   split at h
   ·split at h
    ·rename_i vs hv;split at h
     ·rename_i q hq;simp only[az9,Prod.mk.injEq] at h;obtain⟨rfl,rfl⟩:=h;have hq:=z2e hq;have hv:=j4x (K:=K) ha hv;exact j3j hf (q0d ha hx) (by rw[hv];exact hq)
     ·simp at h
    ·simp at h
   ·simp at h
  ·simp at h
 ·simp at h
def clX(t:TT)(e:Env)(op:Op):Option (Nat×List V):=match clD e op with|some r=>some r|none=>clI t e op
theorem z7y(ht:q7p K.P t){e:Env}(ha:Ag e S){o:Oper}{f:Nat}{avs:List V}(h:clX t e o.op=some (f,avs))(hf:q7o K.P f=true):
  ∀m β w a,Rel K m β w a S->∃vs:Array Value,(execOp a.eval o).run K.P w=.ok (.enter f vs) w/\z3x m β avs vs:=by
 unfold clX at h;split at h
 ·rename_i r hr;simp only[az9] at h;subst h;exact w5o ha hr hf
 ·exact w4o ht ha h
end
end Go.Pv
