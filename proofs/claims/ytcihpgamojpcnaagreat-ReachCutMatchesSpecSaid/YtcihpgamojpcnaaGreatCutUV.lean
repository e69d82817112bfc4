/- Part of the proof: YV, YX, YN1, YN2, YN3, KW, YP5, YP6, FL, UV. -/
import Derived.Test.YtcihpgamojpcnaaGreatCutYU
import Derived.Test.YtcihpgamojpcnaaGreatCutYB
set_option linter.unusedSectionVars false
set_option linter.unusedSimpArgs false
set_option linter.unusedVariables false
namespace Go.Proofs.YtcihpgamojpcnaaGreat
open Go Go.Pv
set_option maxRecDepth 100000
abbrev K5:=List Bool->List Bool->List (q3a×Bool)->List q3a->List Int->Option (Option q4f)
theorem j8e{α:Type}{a:List α}{n:Int}{x:α}(h:idx a n=some x):x∈a:=by
 unfold idx at h;split at h
 ·exact bd8 h
 ·simp at h
theorem z3t{F:Nat}{w:q8b}(W:WOk F w)(k20:K5)(k69:List Bool->List (q3a×Bool)->List q3a->List Int->Option (Option q4f))(md:List Bool){E:Nat->Prop}{f:Int}{x:q8e}(hf:RR F w false f)(hx:idx w.g.Funcs f=some x)(hN:0<w.g.Funcs.length):
  ∀(cs:List q4e) (l:List Bool) (m:List (q3a×Bool)) (o:List q3a) (q:List Int) (b z:Nat),(∀c,c∈cs->c∈x.Calls)->Inv F w l md m o q (b+cs.length) z E->
  ∃l' m' o' q',z6y F w (-1) md k20 k69 cs l m o q=k69 l' m' o' q'/\Inv F w l' md m' o' q' b z E/\v4i l md o l' md o'/\∀c,c∈cs->onB w c.Feature=true->(c.Kind=1->∀i:Nat,fI w c.Target=i->tru l' i)/\(c.Kind≠1->q6r c∈o')
 |[],l,m,o,q,b,z,_,I=>⟨l,m,o,q,rfl,I,v4i.refl,by simp⟩
 |c::cs,l,m,o,q,b,z,hc,I=>by
  rw[z6y];simp only[q9e];by_cases hon:onB w c.Feature=true
  ·have hon':¬(!((q3b w.on c.Feature).getD false))=true:=by
    have:(q3b w.on c.Feature).getD false=true:=hon;simp[this]
   obtain⟨l1,m1,o1,q1,e1,I1,Ma,d1,d2⟩:=w5m W (show Inv F w l md m o q (b+cs.length+1) z E from I) hf hx (j8e hx) (hc c (by simp)) hon hN [];rw[if_neg hon',e1,cl8,if_neg (by simp)];obtain⟨l2,m2,o2,q2,e2,I2,Mb,d3⟩:=z3t W k20 k69 md hf hx hN cs l1 m1 o1 q1 b z (fun c h=>hc c (cl9 _ h)) I1;refine⟨l2,m2,o2,q2,e2,I2,Ma.trans Mb,fun c' hc' ho'=>?_⟩;rcases ax8.1 hc' with rfl|h
   ·exact⟨fun k i hi=>Mb.l i (d1 k i hi),fun k=>Mb.o _ (d2 k)⟩
   ·exact d3 c' h ho'
  ·have hon':(!((q3b w.on c.Feature).getD false))=true:=by
    have:¬(q3b w.on c.Feature).getD false=true:=hon
    simpa using this
   rw[if_pos hon'];obtain⟨l2,m2,o2,q2,e2,I2,Mb,d3⟩:=z3t W k20 k69 md hf hx hN cs l m o q b z (fun c h=>hc c (cl9 _ h)) ⟨I.ll,I.ml,by have:=I.mu;simp at this;omega,I.qm,I.qr,I.sf,I.st,I.ms,I.so,I.cls,I.dn⟩;refine⟨l2,m2,o2,q2,e2,I2,Mb,fun c' hc' ho'=>?_⟩;rcases ax8.1 hc' with rfl|h
   ·exact absurd ho' hon
   ·exact d3 c' h ho'
theorem j2p{F:Nat}{w:q8b}(W:WOk F w)(m:List (q3a×Bool))(o:List q3a)(k49:List Bool->List Bool->List Int->Option (Option q4f)){b z:Nat}{E:Nat->Prop}{f:Int}{x:q8e}(hf:RR F w false f)(hx:idx w.g.Funcs f=some x)(hN:0<w.g.Funcs.length):
  ∀(ts:List Tx) (l md:List Bool) (q:List Int),(∀t,t∈ts->t∈x.Makes)->Inv F w l md m o q b z E->
  ∃l' md' q',j0k F w m o k49 ts l md q=k49 l' md' q'/\Inv F w l' md' m o q' b z E/\v4i l md o l' md' o/\∀t,t∈ts->∀i:Nat,tI w t=i->tru md' i
 |[],l,md,q,_,I=>⟨l,md,q,rfl,I,v4i.refl,by simp⟩
 |t::ts,l,md,q,ht,I=>by
  obtain⟨i,hi,he⟩:=W.mks x (j8e hx) t (ht t (by simp));have he':(q3b w.types t).getD 0=(i:Int):=he
  have hr:RR F w true i:=by
   have:=RR.mk hf hx (ht t (by simp))
   rwa [he] at this
  obtain⟨l1,md1,q1,e1,I1,Ma,d1⟩:=w4m W I i hi hN hr [];rw[j0k,he',e1,cl8];obtain⟨l2,md2,q2,e2,I2,Mb,d2⟩:=j2p W m o k49 hf hx hN ts l1 md1 q1 (fun t h=>ht t (cl9 _ h)) I1;refine⟨l2,md2,q2,e2,I2,Ma.trans Mb,fun u hu j hj=>?_⟩;rcases ax8.1 hu with rfl|hu
  ·rw[he] at hj;obtain rfl:i=j:=by omega
   exact Mb.m _ d1
  ·exact d2 u hu j hj
theorem j5o{F:Nat}{w:q8b}(W:WOk F w)(k20:K5):∀(n:Nat) (l md:List Bool) (m:List (q3a×Bool)) (o:List q3a) (q:List Int) (z:Nat),Inv F w l md m o q 0 z (fun _=>False)->z<n->
  ∃l' md' m' o',z8h F w (-1) k20 n l md m o q=k20 l' md' m' o' []/\(∃z,Inv F w l' md' m' o' [] 0 z (fun _=>False))/\v4i l md o l' md' o'
 |0,l,md,m,o,q,z,_,h=>by omega
 |n+1,l,md,m,o,[],z,I,h=>⟨l,md,m,o,by rw[z8h,z7o (by simp)],⟨z,I⟩,v4i.refl⟩
 |n+1,l,md,m,o,f::q,z,I,h=>by
  obtain⟨i,hfi,hti⟩:=I.qr f (by simp);subst hfi;have hil:i<l.length:=v9x hti;have hiF:i<w.g.Funcs.length:=by rw[<-I.ll];exact hil
  have hN:0<w.g.Funcs.length:=by omega
  have hf:=I.sf i hti;have hx:idx w.g.Funcs (i:Int)=some w.g.Funcs[i]:=q9l hiF;generalize hxx:w.g.Funcs[i]=x at hx;rw[z8h];simp only[q9e];rw[z0n (by simp),show idx ((i:Int)::q) 0=some (i:Int) from rfl,cl8,if_pos (by simp),if_neg (by simp),hx,cl8,cu9,cu8];simp only[cl8];have mu0:=I.mu;have qm0:=I.qm;simp only[cj8] at mu0 qm0
  have I0:Inv F w l md m o q 200 (z - 1) (fun k=>k=i):=⟨I.ll,I.ml,by omega,⟨by omega,by omega⟩,fun y hy=>I.qr y (cl9 _ hy),I.sf,I.st,I.ms,I.so,I.cls,fun k hk=>by
   rcases I.dn k hk with h|h|h
   ·rcases ax8.1 h with h|h
    ·exact .inr (.inr (by omega))
    ·exact .inl h
   ·exact .inr (.inl h)
   ·exact h.elim⟩
  obtain⟨l1,md1,q1,e1,I1,Ma,d1⟩:=j2p W m o (fun l50 l51 l52=>z6y F w (-1) l51 k20 (fun l70 m71 l72 l73=>z8h F w (-1) k20 n l70 l51 m71 l72 l73) x.Calls l50 m o l52) hf hx hN x.Makes l md q (fun _ h=>h) I0;rw[e1];have hcl:=W.cl x (j8e hx);obtain⟨l2,m2,o2,q2,e2,I2,Mb,d2⟩:=z3t W k20 (fun l70 m71 l72 l73=>z8h F w (-1) k20 n l70 md1 m71 l72 l73) md1 hf hx hN x.Calls l1 m o q1 (200 - x.Calls.length) (z - 1) (fun _ h=>h) (by rw[show 200 - x.Calls.length+x.Calls.length=200 by omega];exact I1);rw[e2]
  have hdone:y3s F w l2 md1 o2 i:=fun y hy=>by
   rw[hx] at hy;simp only[bc8] at hy;subst hy;exact⟨fun t ht j hj=>d1 t ht j hj,fun c hc ho=>d2 c hc ho⟩
  have I3:Inv F w l2 md1 m2 o2 q2 0 (z - 1) (fun _=>False):=⟨I2.ll,I2.ml,by have:=I2.mu;omega,I2.qm,I2.qr,I2.sf,I2.st,I2.ms,I2.so,I2.cls,fun k hk=>by
   rcases I2.dn k hk with h|h|h
   ·exact .inl h
   ·exact .inr (.inl h)
   ·have h:k=i:=h;subst h;exact .inr (.inl hdone)⟩
  obtain⟨l3,md3,m3,o3,e3,I4,Mc⟩:=j5o W k20 n l2 md1 m2 o2 q2 (z - 1) I3 (by omega);exact⟨l3,md3,m3,o3,e3,I4,(Ma.trans Mb).trans Mc⟩
theorem z8u{F:Nat}{w:q8b}(W:WOk F w)(k5:List Bool->List Int->Option (Option q4f))(md:List Bool)(hmd:md=List.replicate (((w.g.Types.length:Nat):Int)).toNat false):
  ∀(es:List Tx) (l:List Bool) (q:List Int) (b z:Nat),(∀e,e∈es->e∈w.g.Entries)->Inv F w l md [] [] q b z (fun _=>False)->
  ∃l' q',j1k F w k5 es l q=k5 l' q'/\Inv F w l' md [] [] q' b z (fun _=>False)/\(∀n,tru l n->tru l' n)/\∀e,e∈es->∀i:Nat,fI w e=i->tru l' i
 |[],l,q,b,z,_,I=>⟨l,q,rfl,I,fun _ h=>h,by simp⟩
 |e::es,l,q,b,z,he,I=>by
  obtain⟨i,hi,hfe⟩:=W.ent e (he e (by simp));have hfe':(q3b w.funcs e).getD 0=(i:Int):=hfe;obtain⟨l1,q1,e1,g1,t1⟩:=v6r F w l md [] [] [] q i (by rw[I.ll];exact hi) (by have:=I.qm;omega);rw[j1k,hfe',<-hmd,e1,cl8]
  have I1:=I.grow g1 (fun n hn=>by
   subst hn;have:=RR.entry (F:=F) (he e (by simp))
   rwa [hfe] at this)
  obtain⟨l2,q2,e2,I2,m2,d2⟩:=z8u W k5 md hmd es l1 q1 b z (fun e h=>he e (cl9 _ h)) I1;refine⟨l2,q2,e2,I2,fun n h=>m2 n (g1.old n h),fun u hu j hj=>?_⟩;rcases ax8.1 hu with rfl|hu
  ·rw[hfe] at hj;obtain rfl:i=j:=by omega
   exact m2 _ t1
  ·exact d2 u hu j hj
theorem v8i{n k:Nat}:¬tru (List.replicate n false) k:=by
 unfold tru;rw[bt9];split<;>simp
theorem w4d(n:Nat):fls (List.replicate n false)=n:=by
 unfold fls;rw[List.countP_replicate];simp
theorem v9y{F:Nat}{w:q8b}(W:WOk F w)(hF:10000<=F):∃sp,M16 F w (-1)=some (some sp)/\sp.funcs.length=w.g.Funcs.length/\sp.made.length=w.g.Types.length/\
  (∀n:Nat,tru sp.funcs n<->n<w.g.Funcs.length/\RR F w false n)/\∀n:Nat,tru sp.made n<->n<w.g.Types.length/\RR F w true n:=by
 have hfl:=W.fl;have htl:=W.tl;unfold M16;rw[if_pos (by omega),if_pos (by omega)];simp only[q9e]
 have I0:Inv F w (List.replicate (((w.g.Funcs.length:Nat):Int)).toNat false) (List.replicate (((w.g.Types.length:Nat):Int)).toNat false) [] [] [] 0 w.g.Funcs.length (fun _=>False):=
  ⟨by simp,by simp,by rw[w4d];simp;omega,⟨by rw[w4d];simp,by omega⟩,by simp,fun n h=>(v8i h).elim,fun n h=>(v8i h).elim,fun s=>by simp[q3b],by simp,by simp,fun n h=>(v8i h).elim⟩
 obtain⟨l1,q1,e1,I1,_,d1⟩:=z8u W (fun l6 l7=>z8h F w (-1) (fun l21 l22 m23 l24 l25=>some (some (q4f.mk (some w) l21 l22 m23 l24 ([]:List Int) l25))) F l6 (List.replicate (((w.g.Types.length:Nat):Int)).toNat false) [] [] l7) _ rfl w.g.Entries _ [] 0 w.g.Funcs.length (fun _ h=>h) I0;obtain⟨l2,md2,m2,o2,e2,⟨z,I2⟩,Mb⟩:=j5o W (fun l21 l22 m23 l24 l25=>some (some (q4f.mk (some w) l21 l22 m23 l24 ([]:List Int) l25))) F l1 (List.replicate (((w.g.Types.length:Nat):Int)).toNat false) [] [] q1 w.g.Funcs.length I1 (by omega);refine⟨q4f.mk (some w) l2 md2 m2 o2 [] [],by rw[e1,e2],I2.ll,I2.ml,?_,?_⟩
 all_goals
  have key:∀b v,RR F w b v->(∃n:Nat,v=n/\n<(if b then w.g.Types.length else w.g.Funcs.length))/\∀n:Nat,v=n->if b then tru md2 n else tru l2 n:=by
   intro b v h
   induction h with
   | @entry e h=>
    obtain⟨i,hi,he⟩:=W.ent e h;refine⟨⟨i,he,by simpa using hi⟩,fun n hn=>?_⟩
    simpa using Mb.l n (d1 e h n hn)
   | @dir f x c hf hx hc ho k ih=>
    obtain⟨⟨j,hj,hjl⟩,ih⟩:=ih;have ht:tru l2 j:=by simpa using ih j hj
    subst hj;obtain⟨i,hi,he⟩:=W.dir x (j8e hx) c hc;refine⟨⟨i,he,by simpa using hi⟩,fun n hn=>?_⟩;rcases I2.dn j ht with h|h|h
    ·simp at h
    ·simpa using ((h x hx).2 c hc ho).1 k n hn
    ·exact h.elim
   | @dis f t v x c hf hx hc ho k ht hm hv ih ihm=>
    obtain⟨⟨j,hj,hjl⟩,ih⟩:=ih;have htr:tru l2 j:=by simpa using ih j hj
    subst hj;have hN:0<w.g.Funcs.length:=by simp at hjl;omega
    obtain⟨i,hi,he⟩:=W.tgt c t (W.fit _ t ht) hN;rw[hv] at he;simp only[bc8] at he;refine⟨⟨i,he,by simpa using hi⟩,fun n hn=>?_⟩;rcases I2.dn j htr with h|h|h
    ·simp at h
    ·have hs:=((h x hx).2 c hc ho).2 k
     have:=I2.cls (q6r c) hs t ht (fun hmm=>by
      obtain⟨a,ha,hta⟩:=W.fit _ t ht;have:=(ihm hmm).2 a hta;rw[hta,bq8]
      simpa using this) n (by rw[y0d F w (show(SC (q6r c)).Method=c.Method from rfl),hv,hn])
     simpa using this
    ·exact h.elim
   | @mk f x t hf hx ht ih=>
    obtain⟨⟨j,hj,hjl⟩,ih⟩:=ih;have htr:tru l2 j:=by simpa using ih j hj
    subst hj;obtain⟨i,hi,he⟩:=W.mks x (j8e hx) t ht;refine⟨⟨i,he,by simpa using hi⟩,fun n hn=>?_⟩;rcases I2.dn j htr with h|h|h
    ·simp at h
    ·simpa using (h x hx).1 t ht n hn
    ·exact h.elim
 ·intro n;constructor
  ·exact fun h=>⟨by rw[<-I2.ll];exact v9x h,I2.sf n h⟩
  ·exact fun⟨_,h⟩=>by simpa using (key _ _ h).2 n rfl
 ·intro n;constructor
  ·exact fun h=>⟨by rw[<-I2.ml];exact v9x h,I2.st n h⟩
  ·exact fun⟨_,h⟩=>by simpa using (key _ _ h).2 n rfl
theorem v6o(x:Tx)(v:Int):∀(l:List Tx) (m:w0q) (n:Int),q3b (j2y m n l) x=some v->q3b m x=some v\/n<=v/\v<n+l.length
 |[],m,n,h=>.inl h
 |y::l,m,n,h=>by
  rcases v6o x v l _ _ h with h|h
  ·rw[q8g] at h;split at h
   ·simp at h;subst h;exact .inr ⟨by omega,by simp;omega⟩
   ·exact .inl h
  ·exact .inr ⟨by omega,by simp;omega⟩
theorem j9o(l:List Tx)(x:Tx)(hl:0<l.length):∃i:Nat,i<l.length/\(q3b (j2y [] 0 l) x).getD 0=i:=by
 cases h:q3b (j2y [] 0 l) x with
 |none=>exact⟨0,hl,rfl⟩
 |some v=>
  rcases v6o x v l [] 0 h with h1|h1
  ·simp[q3b] at h1
  ·exact⟨v.toNat,by omega,by simp;omega⟩
theorem z7b{α:Type}{f:α->Tx}{l:List α}(h:l.Pairwise (fun a b=>Op.bytesLess (f a) (f b)=true)):(l.map f).Pairwise (fun a b=>Op.bytesLess a b=true):=by
 rw[ci8];exact h
theorem wok{F:Nat}(hF:1000<=F){g:q4c}(R:q5i g)(how:Int)(fs:List Tx):WOk F (wOf g how fs) where
 fl:=R.fl
 tl:=R.tl
 ent:=fun e he=>by
  have h:=R.e e he;unfold z8r at h;have h:e∈g.Funcs.map (·.Name):=by simpa using h
  obtain⟨i,hi,rfl⟩:=br8 h;refine⟨i,show i<g.Funcs.length by simpa using hi,?_⟩;unfold fI wOf;simp only;rw[z5d _ _ _ _ hi (z7b R.fsrt)];simp
 cl:=fun x hx=>(R.f x hx).len
 mks:=fun x hx t ht=>by
  have h:=(R.f x hx).makes t ht;unfold v7i at h;have h:t∈g.Types.map (·.Name):=by simpa using h
  obtain⟨i,hi,rfl⟩:=br8 h;refine⟨i,show i<g.Types.length by simpa using hi,?_⟩;unfold tI wOf;simp only;rw[z5d _ _ _ _ hi (z7b R.tsrt)];simp
 dir:=fun x hx c hc=>by
  have hN:0<(g.Funcs.map (·.Name)).length:=by
   have:0<g.Funcs.length:=List.length_pos_iff.2 (by intro e;have hx:x∈g.Funcs:=hx;rw[e] at hx;simp at hx)
   simpa using this
  obtain⟨i,hi,he⟩:=j9o (g.Funcs.map (·.Name)) c.Target hN;exact⟨i,show i<g.Funcs.length by simpa using hi,he⟩
 fit:=fun s t ht=>by
  unfold j6p wOf at ht;simp only at ht;rw[j7a g.Types s g.Ifaces [] R.isrt] at ht;simp only[q3b,cq9,ac8] at ht;cases hf:g.Ifaces.find? (fun x=>x.Name==s) with
  |none=>rw[hf] at ht;simp at ht
  |some x=>
   rw[hf] at ht;obtain⟨i,hi,he,_⟩:=(z0t x g.Types 0 t).1 ht;exact⟨i,hi,by omega⟩
 tgt:=fun c t ⟨i,hi,he⟩ hN=>by
  subst he;have hi:i<g.Types.length:=hi;have hT:=R.t g.Types[i] (bh8 _);obtain⟨j,hj,hf⟩:=j9o (g.Funcs.map (·.Name)) (mOf g.Types[i] c.Method).1 (by have hN:0<g.Funcs.length:=hN;simpa using hN);refine⟨j,show j<g.Funcs.length by simpa using hj,?_⟩;unfold M47;rw[show idx (wOf g how fs).g.Types (i:Int)=some g.Types[i] from q9l hi,cl8,w2h F _ _ hT.len hT.srt hF,cl8];exact congrArg some hf
theorem v4o(g:q4c)(how:Int)(fs:List Tx)(x:Tx):onB (wOf g how fs) x=(decide (x=[])||fs.contains x):=by
 unfold onB wOf;simp only;have:=j6a x fs (q0d [] [] true);unfold has at this;rw[this]
 congr 1
 rw[q8g];by_cases h:x=[]
 ·subst h;simp
 ·rw[if_neg (fun e=>h e.symm)];simp[q3b,h]
theorem w9t(F:Nat)(t:q6g)(m:Tx):M91 F t m=some (mOf t m):=by
 have key:∀l:List q3j,j3h F m (some ([],false)) l=some (match l.find? (fun y=>y.Name==m) with|some y=>(y.Func,true)|none=>([],false)):=by
  intro l
  induction l with
  |nil=>rfl
  |cons x l ih=>
   rw[j3h,ch8];by_cases h:(x.Name==m)=true
   ·rw[if_pos h,h]
   ·rw[if_neg h,ih];have:(x.Name==m)=false:=by simpa using h
    rw[this]
 unfold M91;rw[q9e,key];rfl
theorem y2q(F:Nat)(t:q6g)(i:q7d):M92 F t i=some (v4q t i):=by
 have key:∀l:List Tx,j2h F t (some true) l=some (l.all fun m=>(mOf t m).2):=by
  intro l
  induction l with
  |nil=>rfl
  |cons x l ih=>
   rw[j2h,w9t,cl8,aj9];cases h:(mOf t x).2
   ·simp
   ·rw[if_neg (by simp),ih];simp
 unfold M92;rw[q9e,key];rfl
def ifG(g:q4c)(n:Tx):q7d:=(g.Ifaces.find? fun x=>x.Name==n).getD (q7d.mk [] [])
theorem y3q(F:Nat)(g:q4c)(n:Tx):∃b,M90 F g n=some (ifG g n,b):=by
 have key:∀l:List q7d,∃b,j4h F n (some (q7d.mk [] [],false)) l=some ((l.find? fun x=>x.Name==n).getD (q7d.mk [] []),b):=by
  intro l
  induction l with
  |nil=>exact⟨false,rfl⟩
  |cons x l ih=>
   rw[j4h,ch8];by_cases h:(x.Name==n)=true
   ·rw[if_pos h,h];exact⟨true,rfl⟩
   ·rw[if_neg h];have:(x.Name==n)=false:=by simpa using h
    rw[this];exact ih
 unfold M90;rw[q9e];exact key _
def v8w(g:q4c)(c:q4e)(t:q6g):Option q8a:=if (mOf t c.Method).2=true/\v4q t (ifG g c.Target)=true then some (q8a.mk t.Name (mOf t c.Method).1) else none
def q6s(g:q4c)(c:q4e):List q8a:=if c.Kind=1 then [q8a.mk [] c.Target] else g.Types.filterMap (v8w g c)
theorem z0r(F:Nat)(g:q4c)(c:q4e)(b:Bool)(k:List q8a->Option (List q8a)):∀(l:List q6g) (o:List q8a),o.length+l.length<=1000->
  z0x F c (ifG g c.Target,b) k l o=k (o++l.filterMap (v8w g c))
 |[],o,_=>by simp[z0x]
 |t::l,o,h=>by
  simp only[cj8] at h;rw[z0x,q9e];simp only[q9e];rw[w9t,cl8];by_cases h1:(mOf t c.Method).2=true
  ·rw[if_pos h1,y2q,cl8];by_cases h2:v4q t (ifG g c.Target)=true
   ·rw[if_pos h2,if_pos (by simp;omega),z0r F g c b k l _ (by simp;omega),List.filterMap_cons];simp[v8w,h1,h2]
   ·rw[if_neg h2,z0r F g c b k l _ (by omega),List.filterMap_cons];simp[v8w,h2]
  ·rw[if_neg h1,z0r F g c b k l _ (by omega),List.filterMap_cons];simp[v8w,h1]
theorem y5q(F:Nat)(g:q4c)(c:q4e)(h:g.Types.length<=500):M69 F g c=some (q6s g c):=by
 unfold M69 q6s;by_cases hk:c.Kind=1
 ·rw[if_pos (by simp[hk]),if_pos hk]
 ·rw[if_neg (by simpa using hk),if_neg hk];obtain⟨b,hb⟩:=y3q F g c.Target;rw[hb,cl8,q9e,z0r F g c b _ _ _ (by simp;omega)];rfl
theorem v3c(g:q4c)(c:q4e):q6s g c=q6s g (q4e.mk c.Kind c.Target c.Method []):=rfl
def lks(g:q4c)(on:Tx->Bool)(name:Tx):Int->List q4e->List q1a
 |_,[]=>[]
 |n,c::l=>if on c.Feature=true then q1a.mk (q1b.mk name n) (q6s g c)::lks g on name (n+1) l else lks g on name (n+1) l
theorem j9s(g:q4c)(on:Tx->Bool)(name:Tx):∀(l:List q4e) (n:Int),(lks g on name n l).length<=l.length
 |[],_=>by simp[lks]
 |c::l,n=>by
  rw[lks];have:=j9s g on name l (n+1);split<;>simp<;>omega
def KOk(g:q4c)(m:List (q4e×(List q8a))):Prop:=∀k l,q3b m k=some l->l=q6s g k
def lkD(m:List (Tx×(List q1a)))(x:Tx):List q1a:=(q3b m x).getD []
theorem v2k(m:List (Tx×(List q1a)))(x y:Tx)(v:List q1a):lkD (q0d m x v) y=if x=y then v else lkD m y:=by
 unfold lkD;rw[q8g];split<;>rfl
theorem j0j(F:Nat)(g:q4c)(hg:g.Types.length<=500)(m4:z0u)(x:q8e)(k:List (q4e×(List q8a))->List (Tx×(List q1a))->Option q1d):
  ∀(l:List q4e) (n:Int) (kn:List (q4e×(List q8a))) (lk:List (Tx×(List q1a))),KOk g kn->(lkD lk x.Name).length+l.length<=1000->
  ∃kn' lk',z7x F g m4 x k l n kn lk=k kn' lk'/\KOk g kn'/\∀y,lkD lk' y=if x.Name=y then lkD lk x.Name++lks g (has m4) x.Name n l else lkD lk y
 |[],n,kn,lk,hk,_=>⟨kn,lk,rfl,hk,fun y=>by simp only[lks,aa8];split;rename_i h;rw[h];rfl⟩
 |c::l,n,kn,lk,hk,hs=>by
  simp only[cj8] at hs;rw[z7x,q9e];simp only[q9e];by_cases ho:has m4 c.Feature=true
  ·have ho':(q3b m4 c.Feature).getD false=true:=ho;rw[if_neg (by rw[ho'];simp)]
   have step:∀kn2,KOk g kn2->∃kn' lk',(if ((q3b lk x.Name).getD []++[q1a.mk (q1b.mk x.Name n) (q6s g c)]).length*48<=140737488355328 then
     z7x F g m4 x k l (n+1) kn2 (q0d lk x.Name ((q3b lk x.Name).getD []++[q1a.mk (q1b.mk x.Name n) (q6s g c)])) else none)=k kn' lk'/\KOk g kn'/\
     ∀y,lkD lk' y=if x.Name=y then lkD lk x.Name++lks g (has m4) x.Name n (c::l) else lkD lk y:=by
    intro kn2 hk2
    have hlen:((q3b lk x.Name).getD []).length+l.length+1<=1000:=by
     have:(lkD lk x.Name).length+(l.length+1)<=1000:=hs;unfold lkD at this;omega
    rw[if_pos (by simp;omega)];obtain⟨kn',lk',e1,e2,e3⟩:=j0j F g hg m4 x k l (n+1) kn2 (q0d lk x.Name ((q3b lk x.Name).getD []++[q1a.mk (q1b.mk x.Name n) (q6s g c)])) hk2 (by rw[v2k,if_pos rfl];simp;omega);refine⟨kn',lk',e1,e2,fun y=>?_⟩;rw[e3,v2k,if_pos rfl,v2k];by_cases hy:x.Name=y
    ·rw[if_pos hy,if_pos hy,lks,if_pos ho,List.append_assoc];rfl
    ·rw[if_neg hy,if_neg hy,if_neg hy]
   by_cases hm:(q3b kn (q4e.mk c.Kind c.Target c.Method [])).isSome=true
   ·rw[if_neg (by rw[hm];simp)];obtain⟨v,hv⟩:=ae9.1 hm;rw[hv,ck9,hk _ _ hv,<-v3c];exact step kn hk
   ·have hm':(q3b kn (q4e.mk c.Kind c.Target c.Method [])).isSome=false:=by simpa using hm
    rw[if_pos (by rw[hm'];rfl),y5q F g c hg,cl8];refine step _ (fun k' l' h=>?_);rw[q8g] at h;split at h
    ·rename_i e;subst e;simp at h;rw[<-h];exact v3c g c
    ·exact hk k' l' h
  ·have ho':(q3b m4 c.Feature).getD false=false:=by simpa[has] using ho
   rw[if_pos (by rw[ho'];rfl)];obtain⟨kn',lk',e1,e2,e3⟩:=j0j F g hg m4 x k l (n+1) kn lk hk (by omega);exact⟨kn',lk',e1,e2,fun y=>by rw[e3,lks,if_neg ho]⟩
theorem v5g(F:Nat)(g:q4c)(hg:g.Types.length<=500)(m4:z0u)(k:List (Tx×(List q1a))->List (Tx×q8e)->Option q1d):
  ∀(l:List q8e) (kn:List (q4e×(List q8a))) (lk:List (Tx×(List q1a))) (fm:List (Tx×q8e)),KOk g kn->(∀x,x∈l->x.Calls.length<=200)->(∀x,x∈l->lkD lk x.Name=[])->
  l.Pairwise (fun a b=>Op.bytesLess a.Name b.Name=true)->
  ∃lk' fm',z8x F g m4 k l kn lk fm=k lk' fm'/\(∀x,x∈l->lkD lk' x.Name=lks g (has m4) x.Name 0 x.Calls/\q3b fm' x.Name=some x)/\∀y,(∀x,x∈l->x.Name≠y)->lkD lk' y=lkD lk y/\q3b fm' y=q3b fm y
 |[],kn,lk,fm,_,_,_,_=>⟨lk,fm,rfl,by simp,fun _ _=>⟨rfl,rfl⟩⟩
 |x::l,kn,lk,fm,hk,hc,hz,hp=>by
  rw[z8x,q9e];simp only[q9e];obtain⟨kn1,lk1,e1,e2,e3⟩:=j0j F g hg m4 x (fun m32 m33=>z8x F g m4 k l m32 m33 (q0d fm x.Name x)) x.Calls 0 kn lk hk (by rw[hz x (by simp)];have:=hc x (by simp);simp;omega);rw[e1];rw[cf9] at hp;have hne:∀z,z∈l->x.Name≠z.Name:=fun z hz=>z0h (hp.1 z hz);obtain⟨lk',fm',f1,f2,f3⟩:=v5g F g hg m4 k l kn1 lk1 (q0d fm x.Name x) e2 (fun z hz=>hc z (cl9 _ hz)) (fun z hz'=>by rw[e3,if_neg (hne z hz')];exact hz z (cl9 _ hz')) hp.2;refine⟨lk',fm',f1,fun z hz'=>?_,fun y hy=>?_⟩
  ·rcases ax8.1 hz' with e|e
   ·subst e;obtain⟨g1,g2⟩:=f3 z.Name (fun q hq=>Ne.symm (hne q hq));rw[g1,g2,e3,if_pos rfl,hz z (by simp),q8g,if_pos rfl];exact⟨rfl,rfl⟩
   ·exact f2 z e
  ·obtain⟨g1,g2⟩:=f3 y (fun q hq=>hy q (cl9 _ hq));rw[g1,g2,e3,if_neg (hy x (by simp)),q8g,if_neg (hy x (by simp))];exact⟨rfl,rfl⟩
theorem v6g(F:Nat)(k:z0u->Option q1d):∀(l:List Tx) (m:z0u),j1j F k l m=k (z6f m l)
 |[],m=>rfl
 |x::l,m=>by rw[j1j,v6g F k l];rfl
def onF(fs:List Tx)(x:Tx):Bool:=decide (x=[])||fs.contains x
theorem y3b(fs:List Tx)(x:Tx):has (z6f (q0d [] [] true) fs) x=onF fs x:=by
 rw[j6a];unfold onF
 congr 1
 unfold has;rw[q8g];by_cases h:x=[]
 ·subst h;simp
 ·rw[if_neg (fun e=>h e.symm)];simp[q3b,h]
def y2n(n:q1d)(x:B8):List q1a:=(q3b n.links x).getD []
def y4z(n:q1d)(x:B8):q8e:=(q3b n.funcs x).getD (q8e.mk [] [] [] [])
structure v5c(g:q4c)(fs:List Tx)(n:q1d):Prop where
 gr:n.g=g
 l:∀x,x∈g.Funcs->y2n n x.Name=lks g (onF fs) x.Name 0 x.Calls
 f:∀x,x∈g.Funcs->y4z n x.Name=x
theorem j0z(g:q4c){on on':Tx->Bool}(h:∀x,on x=on' x)(name:Tx):∀(l:List q4e) (n:Int),lks g on name n l=lks g on' name n l
 |[],_=>rfl
 |c::l,n=>by rw[lks,lks,h,j0z g h name l]
theorem y5r(F:Nat)(g:q4c)(fs:List Tx)(R:q5i g):∃n,M38 F g fs=some n/\v5c g fs n:=by
 unfold M38;rw[q9e,v6g];simp only[q9e];obtain⟨lk,fm,e1,e2,_⟩:=v5g F g R.tl (z6f (q0d [] [] true) fs) (fun m14 m15=>some (q1d.mk g m14 m15)) g.Funcs [] [] [] (by intro k l h;simp[q3b] at h) (fun x hx=>(R.f x hx).len) (fun _ _=>rfl) R.fsrt;rw[e1];refine⟨_,rfl,rfl,fun x hx=>?_,fun x hx=>?_⟩
 ·exact(e2 x hx).1.trans (j0z g (y3b fs) _ _ _)
 ·show(q3b fm x.Name).getD _=x
  rw[(e2 x hx).2];rfl
inductive RN(g:q4c)(how:Int)(on:Tx->Bool):Bool->Tx->Prop
 |entry {e:Tx} (h:e∈g.Entries):RN g how on false e
 |aim {x:q8e} {c:q4e} {a:q8a} (hf:RN g how on false x.Name) (hx:x∈g.Funcs) (hc:c∈x.Calls) (ho:on c.Feature=true) (ha:a∈q6s g c) (hm:how≠1->a.typ≠[]->RN g how on true a.typ):RN g how on false a.to
 |mk {x:q8e} {t:Tx} (hf:RN g how on false x.Name) (hx:x∈g.Funcs) (ht:t∈x.Makes):RN g how on true t
theorem q7x{g:q4c}{x:Tx}:z8r g x=true<->∃f,f∈g.Funcs/\f.Name=x:=by
 unfold z8r;simp
theorem w8m{g:q4c}{x:Tx}:v7i g x=true<->∃f,f∈g.Types/\f.Name=x:=by
 unfold v7i;simp
theorem w7l{t:q6g}{m:Tx}(h:(mOf t m).2=true):∃y,y∈t.Methods/\y.Name=m/\(mOf t m).1=y.Func:=by
 unfold mOf at h ⊢;cases hf:t.Methods.find? (fun y=>y.Name==m) with
 |none=>rw[hf] at h;simp at h
 |some y=>exact⟨y,List.mem_of_find?_eq_some hf,by have:=List.find?_some hf;simpa using this,rfl⟩
theorem j8g{g:q4c}(R:q5i g){x:q8e}(hx:x∈g.Funcs){c:q4e}(hc:c∈x.Calls){a:q8a}(ha:a∈q6s g c):z8r g a.to=true:=by
 have C:=(R.f x hx).calls c hc;unfold q6s at ha;split at ha
 ·rename_i hk;simp at ha;subst ha;rcases C.kind with ⟨_,h,_⟩|⟨h,_⟩
  ·exact h
  ·rw[hk] at h;simp at h
 ·obtain⟨t,ht,h⟩:=cv9.1 ha;unfold v8w at h;split at h
  ·rename_i h1;simp at h;subst h;obtain⟨y,h2,_,h3⟩:=w7l h1.1
   show z8r g (mOf t c.Method).1=true
   rw[h3];exact((R.t t ht).mn y h2).2
  ·simp at h
theorem RN.names{g:q4c}(R:q5i g){how:Int}{on:Tx->Bool}{b:Bool}{y:Tx}(h:RN g how on b y):if b then v7i g y=true else z8r g y=true:=by
 cases h with
 |entry h=>exact R.e _ h
 |aim hf hx hc ho ha hm=>exact j8g R hx hc ha
 |mk hf hx ht=>exact(R.f _ hx).makes _ ht
theorem z7c{α:Type}{f:α->Tx}:∀{l:List α},l.Pairwise (fun a b=>Op.bytesLess (f a) (f b)=true)->∀{x:α},x∈l->l.find? (fun y=>f y==f x)=some x
 |y::l,hp,x,hx=>by
  rw[cf9] at hp;rw[ch8];rcases ax8.1 hx with e|e
  ·subst e;simp
  ·have:(f y==f x)=false:=by simpa using z0h (hp.1 x e)
   rw[this];exact z7c hp.2 e
theorem w9c(t:Tx)(i:q7d):∀(l:List q7d) (m:List (Tx×q7d)),q3b (ifm m l) t=some i->(i∈l/\i.Name=t)\/q3b m t=some i
 |[],m,h=>.inr h
 |x::l,m,h=>by
  rcases w9c t i l _ h with h|h
  ·exact .inl ⟨cl9 _ h.1,h.2⟩
  ·rw[q8g] at h;split at h
   ·rename_i e;simp at h;subst h;exact .inl ⟨cr8,e⟩
   ·exact .inr h
theorem w3m{g:q4c}(R:q5i g){t:Tx}{l:List Tx}(h:v5w g t=some l):∃i,i∈g.Ifaces/\i.Name=t/\i.Methods=l/\g.Ifaces.find? (fun y=>y.Name==t)=some i:=by
 unfold v5w at h;rw[ad8] at h;obtain⟨i,h1,h2⟩:=h;rcases w9c t i _ _ h1 with h|h
 ·exact⟨i,h.1,h.2,h2,by rw[<-h.2];exact z7c (f:=q7d.Name) R.isrt h.1⟩
 ·simp[q3b] at h
theorem v0l{g:q4c}(R:q5i g)(how:Int)(fs:List Tx){n:Tx}{i:q7d}(hf:g.Ifaces.find? (fun y=>y.Name==n)=some i)(t:Int):t∈j6p (wOf g how fs) n<->∃j:Nat,∃h:j<g.Types.length,t=j/\v4q g.Types[j] i=true:=by
 unfold j6p wOf;simp only;rw[j7a g.Types n g.Ifaces [] R.isrt];simp only[q3b,cq9,ac8];rw[hf]
 show t∈q0p i 0 g.Types<->_
 rw[z0t];simp
theorem z1p{g:q4c}(R:q5i g)(how:Int)(fs:List Tx){i:Nat}(h:i<g.Funcs.length):fI (wOf g how fs) (g.Funcs[i]).Name=i:=by
 unfold fI wOf;simp only;have:=z5d (g.Funcs.map (·.Name)) [] 0 i (by simpa using h) (z7b R.fsrt);simp only[cg8] at this;rw[this];simp
theorem y6h{g:q4c}(R:q5i g)(how:Int)(fs:List Tx){i:Nat}(h:i<g.Types.length):tI (wOf g how fs) (g.Types[i]).Name=i:=by
 unfold tI wOf;simp only;have:=z5d (g.Types.map (·.Name)) [] 0 i (by simpa using h) (z7b R.tsrt);simp only[cg8] at this;rw[this];simp
theorem v3a{g:q4c}{x:Tx}(h:z8r g x=true):∃i:Nat,∃h:i<g.Funcs.length,(g.Funcs[i]).Name=x:=by
 obtain⟨f,hf,rfl⟩:=q7x.1 h;obtain⟨i,hi,rfl⟩:=br8 hf;exact⟨i,hi,rfl⟩
theorem y9s{g:q4c}{x:Tx}(h:v7i g x=true):∃i:Nat,∃h:i<g.Types.length,(g.Types[i]).Name=x:=by
 obtain⟨f,hf,rfl⟩:=w8m.1 h;obtain⟨i,hi,rfl⟩:=br8 hf;exact⟨i,hi,rfl⟩
theorem w6h{F:Nat}(hF:1000<=F){g:q4c}(R:q5i g)(how:Int)(fs:List Tx)(c:q4e){i:Nat}(hi:i<g.Types.length):M47 F (wOf g how fs) c (i:Int)=some (fI (wOf g how fs) (mOf g.Types[i] c.Method).1):=by
 have hT:=R.t g.Types[i] (bh8 _);unfold M47;rw[show idx (wOf g how fs).g.Types (i:Int)=some g.Types[i] from q9l hi,cl8,w2h F _ _ hT.len hT.srt hF,cl8];rfl
theorem w0d{α:Type}{l:List α}{f:Int}{x:α}(h:idx l f=some x):∃i:Nat,∃hi:i<l.length,f=i/\l[i]=x:=by
 have h1:=z8o h;have h2:=q5c h;exact⟨f.toNat,h1,by have:=h2.1;omega,(bi8.1 h2.2).2⟩
theorem v2l{g:q4c}(R:q5i g){x:q8e}(hx:x∈g.Funcs){c:q4e}(hc:c∈x.Calls)(k:c.Kind≠1):∃i,i∈g.Ifaces/\g.Ifaces.find? (fun y=>y.Name==c.Target)=some i/\ifG g c.Target=i/\∀t,v4q t i=true->(mOf t c.Method).2=true:=by
 rcases((R.f x hx).calls c hc).kind with ⟨h,_⟩|⟨_,l,h1,h2⟩
 ·exact absurd h k
 ·obtain⟨i,i1,i2,i3,i4⟩:=w3m R h1;refine⟨i,i1,i4,by unfold ifG;rw[i4];rfl,fun t ht=>?_⟩;unfold v4q at ht;rw[aw9] at ht;exact ht _ (by rw[i3];exact h2)
theorem RR_RN{F:Nat}(hF:1000<=F){g:q4c}(R:q5i g){how:Int}(hh:how=1\/how=2){fs:List Tx}{b:Bool}{v:Int}(h:RR F (wOf g how fs) b v):
  if b then ∃i:Nat,∃h:i<g.Types.length,v=i/\RN g how (onF fs) true (g.Types[i]).Name else ∃i:Nat,∃h:i<g.Funcs.length,v=i/\RN g how (onF fs) false (g.Funcs[i]).Name:=by
 induction h with
 | @entry e h=>
  have h:e∈g.Entries:=h;obtain⟨i,hi,he⟩:=v3a (R.e e h);subst he
  show ∃j,_
  exact⟨i,hi,z1p R how fs hi,.entry h⟩
 | @dir f x c hf hx hc ho k ih=>
  obtain⟨i,hi,rfl,ih2⟩:=(show ∃i:Nat,∃h:i<g.Funcs.length,f=i/\RN g how (onF fs) false (g.Funcs[i]).Name from ih);obtain⟨i',hi',e1,e2⟩:=w0d hx;have:i'=i:=by omega
  subst this;have hx:g.Funcs[i']=x:=e2;have hxm:x∈g.Funcs:=by rw[<-hx];exact bh8 _
  rw[hx] at ih2;have ha:q8a.mk [] c.Target∈q6s g c:=by unfold q6s;rw[if_pos k];simp
  obtain⟨j,hj,he⟩:=v3a (j8g R hxm hc ha);have he:(g.Funcs[j]).Name=c.Target:=he
  show ∃j,_
  refine⟨j,hj,by rw[<-he];exact z1p R how fs hj,?_⟩;rw[he];rw[v4o] at ho;exact .aim ih2 hxm hc ho ha (fun _ h=>absurd rfl h)
 | @dis f t v x c hf hx hc ho k ht hm hv ih ihm=>
  obtain⟨i,hi,rfl,ih2⟩:=(show ∃i:Nat,∃h:i<g.Funcs.length,f=i/\RN g how (onF fs) false (g.Funcs[i]).Name from ih);obtain⟨i',hi',e1,e2⟩:=w0d hx;have:i'=i:=by omega
  subst this;have hx:g.Funcs[i']=x:=e2;have hxm:x∈g.Funcs:=by rw[<-hx];exact bh8 _
  rw[hx] at ih2;obtain⟨I,I1,I2,I3,I4⟩:=v2l R hxm hc k;obtain⟨j,hj,rfl,hfit⟩:=(v0l R how fs I2 t).1 ht;rw[w6h hF R how fs c hj] at hv;simp only[bc8] at hv
  have ha:q8a.mk (g.Types[j]).Name (mOf g.Types[j] c.Method).1∈q6s g c:=by
   unfold q6s;rw[if_neg k];exact cv9.2 ⟨g.Types[j],bh8 _,by unfold v8w;rw[if_pos ⟨I4 _ hfit,by rw[I3];exact hfit⟩]⟩
  obtain⟨q,hq,he⟩:=v3a (j8g R hxm hc ha);have he:(g.Funcs[q]).Name=(mOf g.Types[j] c.Method).1:=he
  show ∃j,_
  refine⟨q,hq,by rw[<-hv,<-he];exact z1p R how fs hq,?_⟩;rw[he];rw[v4o] at ho;refine .aim ih2 hxm hc ho ha (fun h1 _=>?_)
  have hmd:(wOf g how fs).made=true:=by
   have:how=2:=hh.resolve_left h1;simp[wOf,this]
  obtain⟨j',hj',e1,e2⟩:=(show ∃i:Nat,∃h:i<g.Types.length,(j:Int)=i/\RN g how (onF fs) true (g.Types[i]).Name from ihm hmd);have:j'=j:=by omega
  subst this;exact e2
 | @mk f x t hf hx ht ih=>
  obtain⟨i,hi,rfl,ih2⟩:=(show ∃i:Nat,∃h:i<g.Funcs.length,f=i/\RN g how (onF fs) false (g.Funcs[i]).Name from ih);obtain⟨i',hi',e1,e2⟩:=w0d hx;have:i'=i:=by omega
  subst this;have hx:g.Funcs[i']=x:=e2;have hxm:x∈g.Funcs:=by rw[<-hx];exact bh8 _
  rw[hx] at ih2;obtain⟨j,hj,he⟩:=y9s ((R.f x hxm).makes t ht);subst he
  show ∃j,_
  exact⟨j,hj,y6h R how fs hj,.mk ih2 hxm ht⟩
theorem RN_RR{F:Nat}(hF:1000<=F){g:q4c}(R:q5i g){how:Int}{fs:List Tx}{b:Bool}{y:Tx}(h:RN g how (onF fs) b y):
  if b then RR F (wOf g how fs) true (tI (wOf g how fs) y) else RR F (wOf g how fs) false (fI (wOf g how fs) y):=by
 induction h with
 | @entry e h=>exact RR.entry (w:=wOf g how fs) h
 | @aim x c a hf hx hc ho ha hm ih ihm=>
  have ih:RR F (wOf g how fs) false (fI (wOf g how fs) x.Name):=ih;obtain⟨i,hi,rfl⟩:=br8 hx;rw[z1p R how fs hi] at ih;have hix:idx (wOf g how fs).g.Funcs (i:Int)=some g.Funcs[i]:=q9l hi;have hon:onB (wOf g how fs) c.Feature=true:=by rw[v4o];exact ho
  show RR F (wOf g how fs) false _
  unfold q6s at ha;split at ha
  ·rename_i k;simp at ha;subst ha;exact .dir ih hix hc hon k
  ·rename_i k;obtain⟨t,ht,h⟩:=cv9.1 ha;unfold v8w at h;split at h
   ·rename_i h1;simp only[bc8] at h;subst h;obtain⟨j,hj,rfl⟩:=br8 ht;obtain⟨I,I1,I2,I3,I4⟩:=v2l R hx hc k;refine .dis ih hix hc hon k ((v0l R how fs I2 (j:Int)).2 ⟨j,hj,rfl,by rw[<-I3];exact h1.2⟩) (fun hmd=>?_) (w6h hF R how fs c hj);have h2:how≠1:=by intro e;simp[wOf,e] at hmd
    have h3:(g.Types[j]).Name≠[]:=by
     have:=(R.t _ ht).nam;intro e;rw[e] at this;simp[nm] at this
    have:=ihm h2 h3;rw[<-y6h R how fs hj];exact this
   ·simp at h
 | @mk x t hf hx ht ih=>
  have ih:RR F (wOf g how fs) false (fI (wOf g how fs) x.Name):=ih;obtain⟨i,hi,rfl⟩:=br8 hx;rw[z1p R how fs hi] at ih;exact RR.mk (w:=wOf g how fs) ih (q9l hi) ht
theorem v7z{F:Nat}(hF:1000<=F){g:q4c}(R:q5i g){how:Int}(hh:how=1\/how=2)(fs:List Tx){i:Nat}(hi:i<g.Funcs.length):RR F (wOf g how fs) false (i:Int)<->RN g how (onF fs) false (g.Funcs[i]).Name:=by
 constructor
 ·intro h;obtain⟨j,hj,e,h2⟩:=(show ∃j:Nat,∃h:j<g.Funcs.length,(i:Int)=j/\RN g how (onF fs) false (g.Funcs[j]).Name from RR_RN hF R hh h);have:j=i:=by omega
  subst this;exact h2
 ·intro h;have:RR F (wOf g how fs) false (fI (wOf g how fs) (g.Funcs[i]).Name):=RN_RR hF R h;rw[z1p R how fs hi] at this;exact this
def pick{α:Type}(f:α->Tx):List α->List Bool->List Tx
 |x::xs,b::l=>if b=true then f x::pick f xs l else pick f xs l
 |_,_=>[]
theorem j3s{α:Type}(f:α->Tx)(s:Tx):∀(xs:List α) (l:List Bool),s∈pick f xs l<->∃i:Nat,∃h:i<xs.length,tru l i/\f xs[i]=s
 |[],l=>by cases l<;>simp[pick]
 |x::xs,[]=>by simp[pick,tru]
 |x::xs,b::l=>by
  have ih:=j3s f s xs l;have tl:∀i,tru (b::l) (i+1)<->tru l i:=fun i=>by unfold tru;rw[cc8]
  have key:(∃i:Nat,∃h:i<(x::xs).length,tru (b::l) i/\f (x::xs)[i]=s)<->(b=true/\f x=s)\/∃i:Nat,∃h:i<xs.length,tru l i/\f xs[i]=s:=by
   constructor
   ·rintro⟨i,h,h1,h2⟩
    cases i with
    |zero=>exact .inl ⟨by simpa[tru] using h1,h2⟩
    |succ i=>exact .inr ⟨i,by simpa using h,(tl i).1 h1,h2⟩
   ·rintro(⟨h1,h2⟩|⟨i,h,h1,h2⟩)
    ·exact⟨0,by simp,by simp[tru,h1],h2⟩
    ·exact⟨i+1,by simpa using h,(tl i).2 h1,h2⟩
  rw[key,pick];split
  ·rename_i hb;rw[ax8,ih];simp[hb,eq_comm]
  ·rename_i hb;rw[ih];simp[hb]
theorem w7e{α:Type}{xs:List α}{n:Nat}(h:n<xs.length):xs.drop n=xs[n]::xs.drop (n+1):=by simp
theorem j2d{α:Type}(xs:List α)(f:α->Tx)(hx:xs.length<=3000){R:Type}(k:List Tx->Option R)(L:List Bool->Int->List Tx->Option R)
  (h0:∀n o,L [] n o=k o) (h1:∀b l (n:Nat) o,L (b::l) n o=if b=true then (idx xs (n:Int)).bind fun x=>if (o++[f x]).length*16<=140737488355328 then L l ((n+1:Nat):Int) (o++[f x]) else none else L l ((n+1:Nat):Int) o):
  ∀(l:List Bool) (n:Nat) (o:List Tx),n+l.length<=xs.length->o.length<=n->L l n o=k (o++pick f (xs.drop n) l)
 |[],n,o,_,_=>by
  rw[h0];cases hd:xs.drop n<;>simp[pick]
 |b::l,n,o,hn,ho=>by
  simp only[cj8] at hn;have hlt:n<xs.length:=by omega
  rw[h1,w7e hlt,pick];by_cases hb:b=true
  ·rw[if_pos hb,if_pos hb,q9l hlt,cl8,if_pos (by simp;omega),j2d xs f hx k L h0 h1 l (n+1) _ (by omega) (by simp;omega)];simp
  ·rw[if_neg hb,if_neg hb,j2d xs f hx k L h0 h1 l (n+1) _ (by omega) (by omega)]
theorem z1c{g:q4c}{how:Int}{fs:List Tx}(h:z4z g how fs=0):q5i g/\(how=1\/how=2):=by
 unfold z4z at h;split at h
 ·rename_i h1;exact absurd h h1
 ·rename_i h1;split at h
  ·rename_i h2;exact absurd h h2
  ·split at h
   ·rename_i h3;exact⟨j1a (by simpa using h1),h3⟩
   ·simp at h
theorem v8q(l:List Int)(x:Int):x∈cpt l<->x∈l:=by
 unfold cpt Lib.compact Lib.compactUpTo;rw[bk9];constructor
 ·rintro⟨j,hj,rfl⟩
  have hlt:=da8.1 (cm9.1 hj).1;rw[getElem!_pos l.toArray j (by simpa using hlt)];simp
 ·intro hx
  have key:∀j,j<l.length->∃i,i<=j/\Lib.keeps l.toArray i=true/\l.toArray[i]! = l.toArray[j]! := by
   intro j
   induction j with
   |zero=>exact fun _=>⟨0,ae8 _,by simp[Lib.keeps],rfl⟩
   |succ j ih=>
    intro hj;by_cases he:l.toArray[j+1]! = l.toArray[j]!
    ·obtain⟨i,h1,h2,h3⟩:=ih (by omega);exact⟨i,by omega,h2,h3.trans he.symm⟩
    ·exact⟨j+1,ae8 _,by simp only[Lib.keeps,Nat.add_sub_cancel];exact decide_eq_true (.inr he),rfl⟩
  obtain⟨j,hj,rfl⟩:=br8 hx;obtain⟨i,h1,h2,h3⟩:=key j hj;refine⟨i,cm9.2 ⟨da8.2 (by omega),h2⟩,?_⟩;rw[h3,getElem!_pos l.toArray j (by simpa using hj)];simp
theorem w8n{l:List Int}(h:l.Pairwise (·<=·)):(cpt l).Pairwise (·<·):=by
 unfold cpt Lib.compact Lib.compactUpTo;rw[ci8];have hr:((List.range l.length).filter (Lib.keeps l.toArray)).Pairwise (·<·):=List.pairwise_lt_range.filter _;refine cg9 ?_ hr;intro i j hi hj hlt;have hj1:=da8.1 (cm9.1 hj).1;have hj2:=(cm9.1 hj).2;simp only[Lib.keeps,decide_eq_true_eq] at hj2;have hne:l.toArray[j]! ≠ l.toArray[j - 1]! := hj2.resolve_left (by omega);rw[getElem!_pos l.toArray j (by simpa using hj1),getElem!_pos l.toArray (j - 1) (by simp;omega)] at hne;rw[getElem!_pos l.toArray i (by simp;omega),getElem!_pos l.toArray j (by simpa using hj1)];simp only[List.getElem_toArray] at hne ⊢;rw[bb8] at h;have a1:l[j - 1]<=l[j]:=h (j - 1) j (by omega) hj1 (by omega)
 have a2:l[i]<=l[j - 1]:=by
  by_cases e:i=j - 1
  ·subst e;exact db9 _
  ·exact h i (j - 1) (by omega) (by omega) (by omega)
 omega
theorem z4c(l:List Int):(v6u l).Perm l:=List.mergeSort_perm _ _
theorem w0c(l:List Int):(v6u l).Pairwise (·<=·):=by
 have:=cv8 (le:=fun x y:Int=>decide (x<=y)) (fun a b c h h'=>by simp only[decide_eq_true_eq] at *;omega) (fun a b=>by simp only[ax9,decide_eq_true_eq];omega) l;exact this.imp (fun h=>by simpa using h)
theorem y8q(F:Nat)(g:q4c)(n:Tx):M65 F g n=some (match g.Funcs.find? fun x=>x.Name==n with|some x=>(x,true)|none=>(q8e.mk [] [] [] [],false)):=by
 have key:∀l:List q8e,j8h F n (some (q8e.mk [] [] [] [],false)) l=some (match l.find? fun x=>x.Name==n with|some x=>(x,true)|none=>(q8e.mk [] [] [] [],false)):=by
  intro l
  induction l with
  |nil=>rfl
  |cons x l ih=>
   rw[j8h,ch8];by_cases h:(x.Name==n)=true
   ·rw[if_pos h,h]
   ·rw[if_neg h,ih];have:(x.Name==n)=false:=by simpa using h
    rw[this]
 unfold M65;rw[q9e,key]
theorem v8h(F:Nat)(w:q8b)(c:q4e)(k:List Int->Option (List Int))(f:Int->Int):∀(l:List Int) (o:List Int),(∀t,t∈l->M47 F w c t=some (f t))->o.length+l.length<=100000->z5y F w c k l o=k (o++l.map f)
 |[],o,_,_=>by simp[z5y]
 |t::l,o,h,hl=>by
  simp only[cj8] at hl;rw[z5y,h t (by simp),cl8,if_pos (by simp;omega),v8h F w c k f l _ (fun t ht=>h t (cl9 _ ht)) (by simp;omega)];simp
structure TgtOk(g:q4c)(c:q4e)(l:List Int):Prop where
 srt:l.Pairwise (·<·)
 len:l.length<=500
 nat:∀v,v∈l->∃i:Nat,i<g.Funcs.length/\v=i
 mem:∀i:Nat,∀h:i<g.Funcs.length,(i:Int)∈l<->∃a,a∈q6s g c/\a.to=(g.Funcs[i]).Name
theorem w9n(l:List Int):(cpt l).length<=l.length:=w9e l
theorem y8r(F:Nat)(hF:1000<=F){g:q4c}(R:q5i g)(how:Int)(fs:List Tx){x:q8e}(hx:x∈g.Funcs){c:q4e}(hc:c∈x.Calls):∃l,M18 F (wOf g how fs) c=some l/\TgtOk g c l:=by
 unfold M18;by_cases k:c.Kind=1
 ·rw[if_pos (by simp[k])];have ha:q8a.mk [] c.Target∈q6s g c:=by unfold q6s;rw[if_pos k];simp
  obtain⟨i,hi,he⟩:=v3a (j8g R hx hc ha);have he:(g.Funcs[i]).Name=c.Target:=he;have hf:(q3b (wOf g how fs).funcs c.Target).getD 0=(i:Int):=by rw[<-he];exact z1p R how fs hi
  refine⟨_,rfl,by simp,by simp,fun v hv=>?_,fun j hj=>?_⟩
  ·simp only[bx9] at hv;rw[hf] at hv;exact⟨i,hi,hv⟩
  ·simp only[bx9];rw[hf];unfold q6s;rw[if_pos k];simp only[bx9];constructor
   ·intro h;have:j=i:=by omega
    subst this;exact⟨_,rfl,he.symm⟩
   ·rintro⟨a,rfl,h⟩
    have h:c.Target=(g.Funcs[j]).Name:=h;have h1:=z1p R how fs hj;rw[<-h,<-he,z1p R how fs hi] at h1;omega
 ·rw[if_neg (by simpa using k),q9e];obtain⟨I,I1,I2,I3,I4⟩:=v2l R hx hc k;have hfit:∀t,t∈j6p (wOf g how fs) c.Target<->∃j:Nat,∃h:j<g.Types.length,t=j/\v4q g.Types[j] I=true:=v0l R how fs I2
  have hlen:(j6p (wOf g how fs) c.Target).length<=500:=by
   have e:j6p (wOf g how fs) c.Target=q0p I 0 g.Types:=by
    unfold j6p wOf;simp only;rw[j7a g.Types c.Target g.Ifaces [] R.isrt];simp only[q3b,cq9,ac8];rw[I2];rfl
   rw[e];have:=j7p I g.Types 0;have:=R.tl;omega
  let f:Int->Int:=fun t=>fI (wOf g how fs) (mOf (g.Types.getD t.toNat (q6g.mk [] [])) c.Method).1
  have hm:∀t,t∈j6p (wOf g how fs) c.Target->M47 F (wOf g how fs) c t=some (f t):=by
   intro t ht;obtain⟨j,hj,rfl,_⟩:=(hfit t).1 ht;rw[w6h hF R how fs c hj];simp only[f,bq8,db8,be8 hj,ck9]
  have e:=v8h F (wOf g how fs) c (fun l5=>(M48 F l5).bind fun y17=>if y17.length=l5.length then (M49 F y17).bind fun y20=>some y20 else none) f (j6p (wOf g how fs) c.Target) [] hm (by simp;omega);refine⟨cpt (v6u ((j6p (wOf g how fs) c.Target).map f)),?_,w8n (w0c _),?_,?_,?_⟩
  ·refine e.trans ?_;simp only[ac8];unfold M48;rw[if_pos (by simp;omega),cl8,if_pos (z4c _).length_eq];unfold M49;rw[if_pos (by rw[(z4c _).length_eq];simp;omega),cl8]
  ·have:=w9n (v6u ((j6p (wOf g how fs) c.Target).map f));rw[(z4c _).length_eq,br9] at this;omega
  ·intro v hv;rw[v8q,(z4c _).mem_iff] at hv;obtain⟨t,ht,rfl⟩:=bk9.1 hv;obtain⟨j,hj,rfl,hft⟩:=(hfit t).1 ht
   have ha:q8a.mk (g.Types[j]).Name (mOf g.Types[j] c.Method).1∈q6s g c:=by
    unfold q6s;rw[if_neg k];exact cv9.2 ⟨g.Types[j],bh8 _,by unfold v8w;rw[if_pos ⟨I4 _ hft,by rw[I3];exact hft⟩]⟩
   obtain⟨q,hq,he⟩:=v3a (j8g R hx hc ha);have he:(g.Funcs[q]).Name=(mOf g.Types[j] c.Method).1:=he;refine⟨q,hq,?_⟩;simp only[f,bq8,db8,be8 hj,ck9];rw[<-he];exact z1p R how fs hq
  ·intro i hi;rw[v8q,(z4c _).mem_iff,bk9];constructor
   ·rintro⟨t,ht,he⟩
    obtain⟨j,hj,rfl,hft⟩:=(hfit t).1 ht
    have ha:q8a.mk (g.Types[j]).Name (mOf g.Types[j] c.Method).1∈q6s g c:=by
     unfold q6s;rw[if_neg k];exact cv9.2 ⟨g.Types[j],bh8 _,by unfold v8w;rw[if_pos ⟨I4 _ hft,by rw[I3];exact hft⟩]⟩
    obtain⟨q,hq,hqe⟩:=v3a (j8g R hx hc ha);have hqe:(g.Funcs[q]).Name=(mOf g.Types[j] c.Method).1:=hqe;simp only[f,bq8,db8,be8 hj,ck9] at he;rw[<-hqe,z1p R how fs hq] at he;have:q=i:=by omega
    subst this;exact⟨_,ha,hqe.symm⟩
   ·rintro⟨a,ha,he⟩
    unfold q6s at ha;rw[if_neg k] at ha;obtain⟨t,ht,h⟩:=cv9.1 ha;unfold v8w at h;split at h
    ·rename_i h1;simp only[bc8] at h;subst h;obtain⟨j,hj,rfl⟩:=br8 ht;refine⟨j,(hfit _).2 ⟨j,hj,rfl,by rw[<-I3];exact h1.2⟩,?_⟩;simp only[f,bq8,db8,be8 hj,ck9];have he:(mOf g.Types[j] c.Method).1=(g.Funcs[i]).Name:=he;rw[he];exact z1p R how fs hi
    ·simp at h
theorem j8w(y:Tx):∀(l:List Tx) (m:z0u),y∈(z6f m l).map (·.1)<->y∈l\/y∈m.map (·.1)
 |[],m=>by simp[z6f]
 |x::l,m=>by
  rw[z6f,j8w y l,ax8]
  have:y∈(q0d m x true).map (·.1)<->y=x\/y∈m.map (·.1):=by
   rw[j1e];split
   ·rename_i h;exact⟨.inr,fun hh=>hh.elim (fun e=>by rw[e];exact h) id⟩
   ·simp[or_comm]
  rw[this];exact⟨fun h=>h.elim (fun h=>.inl (.inr h)) (fun h=>h.elim (fun h=>.inl (.inl h)) .inr),fun h=>h.elim (fun h=>h.elim (fun h=>.inr (.inl h)) .inl) (fun h=>.inr (.inr h))⟩
theorem j8n:∀(l:List Tx) (m:z0u),(m.map (·.1)).Nodup->((z6f m l).map (·.1)).Nodup
 |[],m,h=>h
 |x::l,m,h=>by
  refine j8n l _ ?_;rw[j1e];split
  ·exact h
  ·rename_i hx;rw[cn9];exact⟨h,by simp,fun a ha b hb e=>hx (by simp at hb;rw[<-hb,<-e];exact ha)⟩
theorem y9c(F:Nat)(hF:10000<=F)(m:z0u)(hn:(m.map (·.1)).Nodup)(hl:m.length<=5000):∃r,M89 F m=some r/\r.Pairwise (fun a b=>Op.bytesLess a b=true)/\∀x,x∈r<->x∈m.map (·.1):=by
 unfold M89;rw[z7q,if_pos (by simp;omega),j3k,ac8,if_pos (v5o 13 F _ (by simp;omega) (by simp;omega) (by simp;omega))];exact⟨_,rfl,j7y (z4i _) ((q7t _).nodup_iff.2 hn),fun x=>(q7t _).mem_iff⟩
theorem v5r{g:q4c}(R:q5i g)(c:q4e):(q6s g c).length<=501:=by
 unfold q6s;split
 ·simp
 ·have:=List.length_filterMap_le (v8w g c) g.Types;have:=R.tl;omega
theorem w6a{l:List Tx}{x:Tx}(h:x ∉ l):q3b (j2y [] 0 l) x=none:=by rw[z8i x l [] 0 h];rfl
end Go.Proofs.YtcihpgamojpcnaaGreat
namespace Go.Pv
def sm{α:Type}(l:List α)(f:α->Int):Int:=l.foldr (fun x s=>f x+s) 0
theorem y9l{α:Type}(f:α->Int):sm [] f=0:=rfl
theorem q5o{α:Type}(x:α)(l:List α)(f:α->Int):sm (x::l) f=f x+sm l f:=rfl
theorem q4n{α:Type}{l:List α}{f g:α->Int}(h:∀x,x∈l->f x=g x):sm l f=sm l g:=by
 induction l with
 |nil=>rfl
 |cons x l ih=>rw[q5o,q5o,h x (cr8),ih (fun y hy=>h y (cl9 _ hy))]
theorem w4r{α:Type}(l:List α)(f g:α->Int):sm l (fun x=>f x+g x)=sm l f+sm l g:=by
 induction l with
 |nil=>rfl
 |cons x l ih=>rw[q5o,q5o,q5o,ih];omega
theorem y0m{α:Type}(l:List α)(f:α->Int):sm l (fun x=>- f x) = - sm l f:=by
 induction l with
 |nil=>rfl
 |cons x l ih=>rw[q5o,q5o,ih];omega
theorem z3d{α:Type}(l:List α):sm l (fun _=>0)=0:=by
 induction l with
 |nil=>rfl
 |cons x l ih=>rw[q5o,ih];rfl
theorem j6r{α:Type}{l:List α}{f g:α->Int}(h:∀x,x∈l->f x<=g x):sm l f<=sm l g:=by
 induction l with
 |nil=>exact db9 _
 |cons x l ih=>
  have h1:=h x cr8;have h2:=ih (fun y hy=>h y (cl9 _ hy));rw[q5o,q5o];omega
theorem w2j{α:Type}{l:List α}{f g:α->Int}(h:∀x,x∈l->f x<=g x)(he:sm l g<=sm l f):∀x,x∈l->f x=g x:=by
 induction l with
 |nil=>simp
 |cons x l ih=>
  have h1:=h x cr8;have h2:=j6r (fun y hy=>h y (cl9 x hy));rw[q5o,q5o] at he;intro y hy;rcases ax8.1 hy with rfl|hy
  ·omega
  ·exact ih (fun y hy=>h y (cl9 _ hy)) (by omega) y hy
theorem j7c{α β:Type}(l:List α)(k:List β)(f:α->β->Int):sm l (fun x=>sm k (fun y=>f x y))=sm k (fun y=>sm l (fun x=>f x y)):=by
 induction l with
 |nil=>rw[y9l];exact(z3d k).symm
 |cons x l ih=>
  rw[q5o,ih,<-w4r];exact q4n (fun y _=>by rw[q5o])
theorem z9b{α:Type}[DecidableEq α]{l:List α}{a:α}(f:α->Int)(hd:l.Nodup)(ha:a∈l)(h:∀x,x∈l->x≠a->f x=0):sm l f=f a:=by
 induction l with
 |nil=>simp at ha
 |cons x l ih=>
  rw[q5o];obtain⟨h1,h2⟩:=aa9.1 hd;by_cases e:x=a
  ·subst e;rw[q4n (g:=fun _=>0) (fun y hy=>h y (cl9 _ hy) (fun e=>h1 (e ▸ hy))),z3d];omega
  ·rw[h x cr8 e,ih h2 (by rcases ax8.1 ha with h|h;exact absurd h.symm e;exact h) (fun y hy=>h y (cl9 _ hy))];omega
end Go.Pv
namespace Go.Pv
section
variable{σ φ:Type}[DecidableEq φ]
structure UV(Ls:List σ)(Fs:List φ)(fn:σ->φ)(tos:σ->φ->Prop)(Z:φ->Prop)(t:φ)(u:σ->Int)(v:σ->φ->Int):Prop where
 nd:Fs.Nodup
 inF:∀s,s∈Ls->fn s∈Fs
 u0:∀s,s∈Ls->0<=u s
 u1:∀s,s∈Ls->u s<=1
 v0:∀s,s∈Ls->∀y,y∈Fs->0<=v s y
 vt:∀s,s∈Ls->∀y,y∈Fs->0<v s y->tos s y
 sum:∀s,s∈Ls->u s=sm Fs (v s)
 con:∀f,f∈Fs->¬Z f->f≠t->sm Ls (fun s=>(if fn s=f then u s else 0) - v s f)=0
structure UCl(Ls:List σ)(Fs:List φ)(fn:σ->φ)(tos:σ->φ->Prop)(Z:φ->Prop)(t:φ)(u:σ->Int)(v:σ->φ->Int)(S:φ->Bool)(T:σ->Bool):Prop where
 z:∀f,f∈Fs->Z f->S f=true
 t:S t=false
 a:∀s,s∈Ls->S (fn s)=true->u s=0->T s=true
 b:∀s,s∈Ls->T s=true->∀y,y∈Fs->tos s y->S y=true
 c:∀s,s∈Ls->T s=true->u s=1->S (fn s)=true
 d:∀s,s∈Ls->∀y,y∈Fs->S y=true->0<v s y->T s=true
variable{Ls:List σ}{Fs:List φ}{fn:σ->φ}{tos:σ->φ->Prop}{Z:φ->Prop}{t:φ}
def uc(Fs:List φ)(fn:σ->φ)(u:σ->Int)(v:σ->φ->Int)(S:φ->Bool)(s:σ):Int:=(if S (fn s)=true then u s else 0) - sm Fs (fun y=>if S y=true then v s y else 0)
def j9q(fn:σ->φ)(S:φ->Bool)(T:σ->Bool)(s:σ):Bool:=S (fn s)&&!T s
theorem z3u{α:Type}(l:List α)(f g:α->Int):sm l (fun x=>f x - g x)=sm l f - sm l g:=by
 have h:sm l (fun x=>f x - g x)=sm l (fun x=>f x + - g x):=q4n fun _ _=>by omega
 rw[h,w4r,y0m];omega
theorem q2z{α:Type}{l:List α}{f:α->Int}(h:∀x,x∈l->0<=f x):0<=sm l f:=by
 have:=j6r (l:=l) (f:=fun _=>0) (g:=f) h;rw[z3d] at this;exact this
theorem j7r{α:Type}{l:List α}{f:α->Int}(h:∀x,x∈l->0<=f x){x:α}(hx:x∈l):f x<=sm l f:=by
 induction l with
 |nil=>simp at hx
 |cons y l ih=>
  rw[q5o];have h2:=q2z (fun z hz=>h z (cl9 _ hz));have h3:=h y cr8;rcases ax8.1 hx with e|e
  ·subst e;omega
  ·have:=ih (fun z hz=>h z (cl9 _ hz)) e;omega
theorem sm_zero'{α:Type}{l:List α}{f:α->Int}(h:∀x,x∈l->f x=0):sm l f=0:=by rw[q4n (g:=fun _=>0) h,z3d]
theorem w3r{α:Type}(l:List α)(p:α->Bool):sm l (fun x=>if p x=true then 1 else 0)=((l.filter p).length:Int):=by
 induction l with
 |nil=>rfl
 |cons x l ih=>
  rw[q5o,ih,ab9];cases p x<;>simp<;>omega
theorem UV.val{u:σ->Int}{v:σ->φ->Int}(h:UV Ls Fs fn tos Z t u v)(S S':φ->Bool)(hz:∀f,f∈Fs->Z f->S f=true)(hz':∀f,f∈Fs->Z f->S' f=true)(ht:S t=false)(ht':S' t=false):
  sm Ls (uc Fs fn u v S)=sm Ls (uc Fs fn u v S'):=by
 have key:∀S:φ->Bool,sm Ls (uc Fs fn u v S)=sm Fs (fun f=>if S f=true then sm Ls (fun s=>(if fn s=f then u s else 0) - v s f) else 0):=by
  intro S
  have e:sm Fs (fun f=>if S f=true then sm Ls (fun s=>(if fn s=f then u s else 0) - v s f) else 0)=sm Fs (fun f=>sm Ls (fun s=>if S f=true then (if fn s=f then u s else 0) - v s f else 0)):=by
   refine q4n fun f _=>?_;split
   ·rfl
   ·exact(z3d _).symm
  rw[e,j7c];refine(q4n fun s hs=>?_).symm;unfold uc
  have e1:sm Fs (fun f=>if S f=true then (if fn s=f then u s else 0) - v s f else 0)=sm Fs (fun f=>(if S f=true then (if fn s=f then u s else 0) else 0) - (if S f=true then v s f else 0)):=by
   refine q4n fun f _=>?_;split<;>simp
  rw[e1,z3u,z9b (a:=fn s) _ h.nd (h.inF s hs) (fun x _ hx=>by
   split
   ·rw[if_neg (fun e=>hx e.symm)]
   ·rfl)]
  simp
 rw[key,key];refine q4n fun f hf=>?_;by_cases z:Z f
 ·rw[if_pos (hz f hf z),if_pos (hz' f hf z)]
 ·by_cases e:f=t
  ·subst e;rw[if_neg (by simp[ht]),if_neg (by simp[ht'])]
  ·rw[h.con f hf z e];simp
theorem UV.in_all{u:σ->Int}{v:σ->φ->Int}(h:UV Ls Fs fn tos Z t u v){S:φ->Bool}{s:σ}(hs:s∈Ls)(ht:∀y,y∈Fs->tos s y->S y=true):sm Fs (fun y=>if S y=true then v s y else 0)=u s:=by
 rw[h.sum s hs];refine q4n fun y hy=>?_;split
 ·rfl
 ·rename_i n;have:=h.v0 s hs y hy;by_cases p:0<v s y
  ·exact absurd (ht y hy (h.vt s hs y hy p)) n
  ·omega
theorem UV.in_nn{u:σ->Int}{v:σ->φ->Int}(h:UV Ls Fs fn tos Z t u v)(S:φ->Bool){s:σ}(hs:s∈Ls):∀y,y∈Fs->0<=(if S y=true then v s y else 0):=by
 intro y hy;split
 ·exact h.v0 s hs y hy
 ·omega
theorem UV.uc_le{u:σ->Int}{v:σ->φ->Int}(h:UV Ls Fs fn tos Z t u v){S:φ->Bool}{T:σ->Bool}(hb:∀s,s∈Ls->T s=true->S (fn s)=true->∀y,y∈Fs->tos s y->S y=true):∀s,s∈Ls->uc Fs fn u v S s<=(if j9q fn S T s=true then 1 else 0):=by
 intro s hs;unfold uc j9q;have n0:=q2z (h.in_nn S hs);cases hS:S (fn s)<;>cases hT:T s
 ·simp;omega
 ·simp;omega
 ·have:=h.u1 s hs;simp;omega
 ·rw[h.in_all hs (hb s hs hT hS)];simp
theorem UV.uc_eq{u:σ->Int}{v:σ->φ->Int}(h:UV Ls Fs fn tos Z t u v){S:φ->Bool}{T:σ->Bool}(c:UCl Ls Fs fn tos Z t u v S T):∀s,s∈Ls->uc Fs fn u v S s=(if j9q fn S T s=true then 1 else 0):=by
 intro s hs;unfold uc j9q;have k1:=h.u0 s hs;have k2:=h.u1 s hs
 have no:T s=false->sm Fs (fun y=>if S y=true then v s y else 0)=0:=fun hT=>sm_zero' fun y hy=>by
  split
  ·rename_i hy';have:=h.v0 s hs y hy;by_cases p:0<v s y
   ·have:=c.d s hs y hy hy' p;rw[hT] at this;simp at this
   ·omega
  ·rfl
 cases hS:S (fn s)<;>cases hT:T s
 ·rw[no hT];simp
 ·rw[h.in_all hs (c.b s hs hT)];by_cases e:u s=1
  ·have:=c.c s hs hT e;rw[hS] at this;simp at this
  ·simp;omega
 ·rw[no hT];by_cases e:u s=0
  ·have:=c.a s hs hS e;rw[hT] at this;simp at this
  ·simp;omega
 ·rw[h.in_all hs (c.b s hs hT)];simp
theorem UV.val_cut{u:σ->Int}{v:σ->φ->Int}(h:UV Ls Fs fn tos Z t u v){S:φ->Bool}{T:σ->Bool}(c:UCl Ls Fs fn tos Z t u v S T):sm Ls (uc Fs fn u v S)=((Ls.filter (j9q fn S T)).length:Int):=by
 rw[q4n (h.uc_eq c),w3r]
theorem UV.no_fewer{u:σ->Int}{v:σ->φ->Int}(h:UV Ls Fs fn tos Z t u v){S:φ->Bool}{T:σ->Bool}(c:UCl Ls Fs fn tos Z t u v S T){R:φ->Bool}(L:σ->Bool)(hz:∀f,f∈Fs->Z f->R f=true)(ht:R t=false)
  (hb:∀s,s∈Ls->L s=false->R (fn s)=true->∀y,y∈Fs->tos s y->R y=true):(Ls.filter (j9q fn S T)).length<=(Ls.filter L).length:=by
 have e1:=h.val S R c.z hz c.t ht;rw[h.val_cut c] at e1;have e2:=j6r (h.uc_le (S:=R) (T:=fun s=>!L s) (fun s hs hT=>hb s hs (by simpa using hT)))
 have e3:sm Ls (fun s=>if j9q fn R (fun s=>!L s) s=true then (1:Int) else 0)<=sm Ls (fun s=>if L s=true then 1 else 0):=j6r fun s hs=>by
  unfold j9q;cases R (fn s)<;>cases hL:L s<;>simp[hL]
 rw[w3r Ls L] at e3;omega
theorem UV.closed{u u':σ->Int}{v v':σ->φ->Int}(h:UV Ls Fs fn tos Z t u v)(h':UV Ls Fs fn tos Z t u' v'){S S':φ->Bool}{T T':σ->Bool}(c:UCl Ls Fs fn tos Z t u v S T)(c':UCl Ls Fs fn tos Z t u' v' S' T'):UCl Ls Fs fn tos Z t u' v' S T:=by
 have e1:=h.val S S' c.z c'.z c.t c'.t;have e2:=h'.val S S' c.z c'.z c.t c'.t;have v1:=q4n (h.uc_eq c);have v2:=q4n (h'.uc_eq c');have l1:=j6r (h.uc_le (S:=S') (T:=T') (fun s hs hT _=>c'.b s hs hT));have l2:=h'.uc_le (S:=S) (T:=T) (fun s hs hT _=>c.b s hs hT);have key:=w2j l2 (by omega);have n0:=fun s hs=>q2z (h'.in_nn S (s:=s) hs);refine⟨c.z,c.t,fun s hs hS hu=>?_,c.b,fun s hs hT hu=>?_,fun s hs y hy hS hv=>?_⟩
 ·have k:=key s hs;have:=n0 s hs;unfold uc j9q at k;rw[hS,if_pos rfl,hu] at k;cases hT:T s
  ·rw[hT] at k;simp at k;omega
  ·rfl
 ·have k:=key s hs;unfold uc j9q at k;rw[h'.in_all hs (c.b s hs hT),hT] at k;cases hS:S (fn s)
  ·rw[hS] at k;simp at k;omega
  ·rfl
 ·have k:=key s hs;have g:=j7r (h'.in_nn S (s:=s) hs) hy;simp only[hS,if_true] at g;have:=h'.u1 s hs;unfold uc j9q at k;cases hT:T s
  ·rw[hT] at k;cases hS':S (fn s)
   ·rw[hS'] at k;simp at k;omega
   ·rw[hS'] at k;simp at k;omega
  ·rfl
end
end Go.Pv
namespace Go.Pv
theorem v0z{α:Type}(l:List α)(p:α->Bool)(f:α->Int):sm (l.filter p) f=sm l (fun x=>if p x=true then f x else 0):=by
 induction l with
 |nil=>rfl
 |cons x l ih=>
  rw[ab9,q5o,<-ih];cases p x<;>simp[q5o]
section
variable{σ φ:Type}[DecidableEq φ]{Ls:List σ}{Fs:List φ}{fn:σ->φ}{tos:σ->φ->Prop}{Z:φ->Prop}{t:φ}
theorem UV.more{p:σ->Bool}{u:σ->Int}{v:σ->φ->Int}(h:UV (Ls.filter p) Fs fn tos Z t u v)(hin:∀s,s∈Ls->fn s∈Fs):UV Ls Fs fn tos Z t (fun s=>if p s=true then u s else 0) (fun s y=>if p s=true then v s y else 0):=by
 refine⟨h.nd,hin,fun s hs=>?_,fun s hs=>?_,fun s hs y hy=>?_,fun s hs y hy hv=>?_,fun s hs=>?_,fun f hf hz ht=>?_⟩
 ·split
  ·exact h.u0 s (cm9.2 ⟨hs,by assumption⟩)
  ·omega
 ·split
  ·exact h.u1 s (cm9.2 ⟨hs,by assumption⟩)
  ·omega
 ·split
  ·exact h.v0 s (cm9.2 ⟨hs,by assumption⟩) y hy
  ·omega
 ·split at hv
  ·exact h.vt s (cm9.2 ⟨hs,by assumption⟩) y hy hv
  ·omega
 ·split
  ·exact h.sum s (cm9.2 ⟨hs,by assumption⟩)
  ·exact(z3d _).symm
 ·have:=h.con f hf hz ht;rw[v0z] at this;refine Eq.trans (q4n fun s _=>?_) this;cases p s<;>simp
theorem UCl.more{p:σ->Bool}{r:φ->Bool}{u:σ->Int}{v:σ->φ->Int}{S:φ->Bool}{T:σ->Bool}(h:UCl (Ls.filter p) Fs fn tos Z t u v S T)(hin:∀s,s∈Ls->fn s∈Fs)(hp:∀s,s∈Ls->p s=r (fn s))(hz:∀f,f∈Fs->Z f->r f=true)(hr:∀s,s∈Ls->r (fn s)=true->∀y,y∈Fs->tos s y->r y=true):
  UCl Ls Fs fn tos Z t (fun s=>if p s=true then u s else 0) (fun s y=>if p s=true then v s y else 0) (fun f=>S f&&r f) (fun s=>T s&&p s):=by
 refine⟨fun f hf hzf=>?_,?_,fun s hs hS hu=>?_,fun s hs hT y hy hty=>?_,fun s hs hT hu=>?_,fun s hs y hy hS hv=>?_⟩
 ·simp[h.z f hf hzf,hz f hf hzf]
 ·simp[h.t]
 ·simp only[av8] at hS ⊢;have q:p s=true:=by rw[hp s hs];exact hS.2
  rw[if_pos q] at hu;exact⟨h.a s (cm9.2 ⟨hs,q⟩) hS.1 hu,q⟩
 ·simp only[av8] at hT ⊢;exact⟨h.b s (cm9.2 ⟨hs,hT.2⟩) hT.1 y hy hty,hr s hs (by rw[<-hp s hs];exact hT.2) y hy hty⟩
 ·simp only[av8] at hT ⊢;rw[if_pos hT.2] at hu;exact⟨h.c s (cm9.2 ⟨hs,hT.2⟩) hT.1 hu,by rw[<-hp s hs];exact hT.2⟩
 ·simp only[av8] at hS ⊢;split at hv
  ·rename_i q;exact⟨h.d s (cm9.2 ⟨hs,q⟩) y hy hS.1 hv,q⟩
  ·omega
theorem UCl.less{p:σ->Bool}{u:σ->Int}{v:σ->φ->Int}{S:φ->Bool}{T:σ->Bool}(h:UCl Ls Fs fn tos Z t (fun s=>if p s=true then u s else 0) (fun s y=>if p s=true then v s y else 0) S T):UCl (Ls.filter p) Fs fn tos Z t u v S T:=by
 refine⟨h.z,h.t,fun s hs hS hu=>?_,fun s hs hT y hy hty=>?_,fun s hs hT hu=>?_,fun s hs y hy hS hv=>?_⟩
 ·have q:=cm9.1 hs;exact h.a s q.1 hS (by rw[if_pos q.2];exact hu)
 ·have q:=cm9.1 hs;exact h.b s q.1 hT y hy hty
 ·have q:=cm9.1 hs;exact h.c s q.1 hT (by rw[if_pos q.2];exact hu)
 ·have q:=cm9.1 hs;exact h.d s q.1 y hy hS (by rw[if_pos q.2];exact hv)
end
end Go.Pv
