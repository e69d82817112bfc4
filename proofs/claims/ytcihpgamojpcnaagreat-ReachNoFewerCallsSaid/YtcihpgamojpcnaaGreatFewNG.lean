/- Part of the proof: NC, ND, NE, NF, NG. -/
import Derived.Test.YtcihpgamojpcnaaGreatFewNB
namespace Go.Proofs.YtcihpgamojpcnaaGreat
open Go Go.Pv
set_option linter.unusedVariables false
def neg(out:List Int):Nat:=out.countP fun v=>decide (v<0)
theorem neg_set{out:List Int}{i:Nat}(hi:i<out.length)(h:out[i]<0){v:Int}(hv:0<=v):neg (out.set i v)+1=neg out:=by
 unfold neg
 rw[List.countP_set hi,if_pos (by simpa using h),if_neg (by simp;omega)]
 have:0<out.countP fun v=>decide (v<0):=List.countP_pos_iff.2 ⟨_,List.getElem_mem hi,by simpa using h⟩
 omega
theorem lvl_get{lev:List Int}{n:Nat}(h:n<lev.length):lvl lev n=lev[n]:=by
 unfold lvl;rw[List.getD_eq_getElem?_getD,List.getElem?_eq_getElem h];rfl
theorem lvl_set{lev:List Int}{j:Nat}(hj:j<lev.length)(v:Int)(n:Nat):lvl (lev.set j v) n=if n=j then v else lvl lev n:=by
 unfold lvl
 rw[List.getD_eq_getElem?_getD,List.getD_eq_getElem?_getD,List.getElem?_set]
 by_cases e:n=j
 ·subst e;rw[if_pos rfl,if_pos hj,if_pos rfl];rfl
 ·rw[if_neg (fun q=>e q.symm),if_neg e]
def nI(l:List Nat):List Int:=l.map fun n:Nat=>(n:Int)
structure LInv(N:Nat)(E:List Eg)(fl:Nat->Int)(s:Nat)(lev:List Int)(X:List Nat):Prop where
 len:lev.length=N
 src:lvl lev s=0
 rng:∀n,n<N → -1<=lvl lev n
 cnt:∀n,n<N->lvl lev n+1+(neg lev:Int)<=N
 qm:∀x,x∈X->x<N/\0<=lvl lev x
 done:∀n,n<N->0<=lvl lev n->n ∉ X->∀d:Dt,d.1<E.length->frm E d=n->0<lft E fl d->0<=lvl lev (tow E d)
 pre:∀n,n<N->0<=lvl lev n->n≠s->∃d:Dt,d.1<E.length/\tow E d=n/\0<lft E fl d/\0<=lvl lev (frm E d)/\lvl lev n=lvl lev (frm E d)+1
section
variable{N:Nat}{E:List Eg}{ps:Dt->Nat}{fl:Nat->Int}{G:Gr}{s:Nat}
theorem LInv.visit(I:NetI N E ps fl G)(hs:s<N){lev:List Int}{i:Nat}{qs:List Nat}(L:LInv N E fl s lev (i::qs)){d:Dt}(hd:d.1<E.length)(hf:frm E d=i)(hl:0<lft E fl d)(hv:lvl lev (tow E d)<0):
  LInv N E fl s (lev.set (tow E d) (lvl lev i+1)) (i::(qs++[tow E d]))/\neg (lev.set (tow E d) (lvl lev i+1))+1=neg lev/\∀n,n<N->0<=lvl lev n->0<=lvl (lev.set (tow E d) (lvl lev i+1)) n:=by
 have hi:=L.qm i (by simp)
 have htw:=I.towlt hd
 have hj:tow E d<lev.length:=by rw[L.len];exact htw
 have hn:=neg_set hj (by rw[<-lvl_get hj];exact hv) (v:=lvl lev i+1) (by omega)
 have key:=lvl_set hj (lvl lev i+1)
 refine⟨⟨by simpa using L.len,?_,fun n hn'=>?_,fun n hn'=>?_,fun x hx=>?_,fun n hn' h0 hx d' hd' hf' hl'=>?_,fun n hn' h0 hns=>?_⟩,hn,fun n hn' h0=>?_⟩
 ·rw[key,if_neg (fun e=>by have:=L.src;rw[e] at this;omega)];exact L.src
 ·rw[key];have:=L.rng n hn';split<;>omega
 ·rw[key]
  have h1:=L.cnt n hn'
  have h2:=L.cnt i hi.1
  split<;>omega
 ·rw[key]
  rcases List.mem_cons.1 hx with e|e
  ·subst e;exact⟨hi.1,by split<;>omega⟩
  ·rcases List.mem_append.1 e with e|e
   ·have:=L.qm x (List.mem_cons_of_mem _ e);exact⟨this.1,by split<;>omega⟩
   ·simp only[List.mem_singleton] at e
    subst e;exact⟨htw,by rw[if_pos rfl];omega⟩
 ·rw[key] at h0
  have hne:n≠tow E d:=fun e=>hx (by rw[e];simp)
  rw[if_neg hne] at h0
  have:=L.done n hn' h0 (fun q=>hx (by
   rcases List.mem_cons.1 q with e|e
   ·rw[e];simp
   ·exact List.mem_cons_of_mem _ (List.mem_append.2 (.inl e)))) d' hd' hf' hl'
  rw[key];split<;>omega
 ·rw[key] at h0 ⊢
  by_cases e:n=tow E d
  ·rw[if_pos e]
   refine⟨d,hd,e.symm,hl,?_,?_⟩
   ·rw[key,hf,if_neg (fun q=>by rw[q] at hi;omega)];exact hi.2
   ·rw[key,hf,if_neg (fun q=>by rw[q] at hi;omega)]
  ·rw[if_neg e] at h0 ⊢
   obtain⟨d',h1,h2,h3,h4,h5⟩:=L.pre n hn' h0 hns
   refine⟨d',h1,h2,h3,?_,?_⟩
   ·rw[key];split<;>omega
   ·rw[key,if_neg (fun q=>by rw[q] at h4;omega)];exact h5
 ·rw[key];split<;>omega
theorem M50_L3_ok(F:Nat)(I:NetI N E ps fl G)(hs:s<N)(hN:N<=1000000000){i:Nat}{row:List Treach_arc}(hr:G[i]? = some row)(hE:E.length<=1000000000)(k:List Int->List Int->Option (List Int)):
  ∀(m p:Nat) (qs:List Nat) (lev:List Int),p+m=row.length->LInv N E fl s lev (i::qs)->(∀d:Dt,d.1<E.length->frm E d=i->ps d<p->0<lft E fl d->0<=lvl lev (tow E d))->qs.length+neg lev<=2000000000->
   ∃qs' lev',M50_L3 F G i k m p (nI qs) lev=k (nI qs') lev'/\LInv N E fl s lev' (i::qs')/\(∀d:Dt,d.1<E.length->frm E d=i->0<lft E fl d->0<=lvl lev' (tow E d))/\qs'.length+neg lev'=qs.length+neg lev
 |0,p,qs,lev,hp,L,hd,hb=>⟨qs,lev,rfl,L,fun d hv hf hl=>hd d hv hf (by
   obtain⟨row',h1,h2⟩:=at2_row (I.at_ d hv)
   rw[hf,hr] at h1;cases h1
   have:=(List.getElem?_eq_some_iff.1 h2).1;omega) hl,rfl⟩
 |m+1,p,qs,lev,hp,L,hd,hb=>by
  have hlt:p<row.length:=by omega
  have ha2:at2 G i p=some row[p]:=by unfold at2;rw[hr,Option.bind_some,List.getElem?_eq_getElem hlt]
  obtain⟨d,hdv,hf,hps⟩:=I.all _ _ _ ha2
  have ea:=I.at_ d hdv
  rw[hf,hps,ha2] at ea
  simp only[Option.some.injEq] at ea
  have hrow:row[p]? = some (Treach_arc.mk (tow E d) (lft E fl d) (ps (rev d))):=by rw[List.getElem?_eq_getElem hlt,ea]
  have hi:=L.qm i (by simp)
  have htw:=I.towlt hdv
  have hcast:((p:Int)+1)=((p+1:Nat):Int):=by omega
  have next:∀lev':List Int,(∀n,n<N->0<=lvl lev n->0<=lvl lev' n)->(0<lft E fl d->0<=lvl lev' (tow E d))->∀d':Dt,d'.1<E.length->frm E d'=i->ps d'<p+1->0<lft E fl d'->0<=lvl lev' (tow E d'):=by
   intro lev' hm hn d' hd' hf' hp' hl'
   by_cases e:ps d'=p
   ·have:=I.inj d' d hd' hdv (by rw[hf',hf]) (by rw[e,hps])
    subst this;exact hn hl'
   ·exact hm _ (I.towlt hd') (hd d' hd' hf' (by omega) hl')
  rw[M50_L3]
  simp only[jn_def]
  rw[idx_q hr,Option.bind_some,idx_q hrow,Option.bind_some,hcast]
  simp only
  by_cases hl:0<lft E fl d
  ·rw[if_pos (by simpa using hl),idx_lvl (by rw[L.len];exact htw),Option.bind_some]
   by_cases hv:lvl lev (tow E d)<0
   ·rw[if_pos (by simpa using hv),idx_lvl (by rw[L.len];exact hi.1),Option.bind_some,Option.bind_some,if_pos (by simp[nI];omega)]
    have hc:=L.cnt i hi.1
    rw[w64_id (by omega) (by omega),Int.toNat_natCast]
    obtain⟨L',hn,hm⟩:=L.visit I hs hdv hf hl hv
    have e2:nI qs++[((tow E d:Nat):Int)]=nI (qs++[tow E d]):=by simp[nI]
    rw[e2]
    obtain⟨qs',lev',e,h1,h2,h3⟩:=M50_L3_ok F I hs hN hr hE k m (p+1) (qs++[tow E d]) _ (by omega) L' (next _ hm (fun _=>(L'.qm _ (by simp)).2)) (by simp;omega)
    exact⟨qs',lev',e,h1,h2,by rw[h3];simp;omega⟩
   ·rw[if_neg (by simpa using hv)]
    exact M50_L3_ok F I hs hN hr hE k m (p+1) qs lev (by omega) L (next lev (fun _ _ h=>h) (fun _=>by omega)) hb
  ·rw[if_neg (by simpa using hl)]
   exact M50_L3_ok F I hs hN hr hE k m (p+1) qs lev (by omega) L (next lev (fun _ _ h=>h) (fun h=>absurd h hl)) hb
theorem M50_L2_ok(F:Nat)(I:NetI N E ps fl G)(hs:s<N)(hN:N<=1000000000)(hE:E.length<=1000000000):
  ∀(n:Nat) (qs:List Nat) (lev:List Int),LInv N E fl s lev qs->qs.length+neg lev<n->qs.length+neg lev<=2000000000->∃lev',M50_L2 F G n (nI qs) lev=some lev'/\LInv N E fl s lev' []
 |0,qs,lev,L,hn,hb=>by omega
 |n+1,[],lev,L,hn,hb=>⟨lev,by rw[M50_L2,if_neg (by simp[nI])],L⟩
 |n+1,i::qs,lev,L,hn,hb=>by
  have hi:=L.qm i (by simp)
  have hig:i<G.length:=by rw[I.len];exact hi.1
  have hr:=List.getElem?_eq_getElem hig
  have hrl:=I.rl i _ hr
  have e0:(nI (i::qs))=(i:Int)::nI qs:=rfl
  rw[M50_L2,e0,if_pos (by simp),jn_def]
  have e1:idx ((i:Int)::nI qs) 0=some (i:Int):=by unfold idx;simp
  rw[e1,Option.bind_some,if_pos (by simp),idx_q hr,Option.bind_some,jn_def,if_pos (by omega)]
  simp only[List.drop_succ_cons,List.drop_zero]
  simp only[List.length_cons] at hn hb
  obtain⟨qs',lev',e,h1,h2,h3⟩:=M50_L3_ok F I hs hN hr hE (fun l91 l92=>jn (fun(l83:List Int) (l84:List Int)=>M50_L2 F G n l83 l84) (fun k82=>k82 l91 l92)) (((G[i].length:Nat):Int):Int).toNat 0 qs lev (by simp) L (fun d _ _ h=>by omega) (by omega)
  have L':LInv N E fl s lev' qs':=⟨h1.len,h1.src,h1.rng,h1.cnt,fun x hx=>h1.qm x (List.mem_cons_of_mem _ hx),fun m hm h0 hx d hd hf hl=>by
   by_cases e:m=i
   ·exact h2 d hd (by rw[hf,e]) hl
   ·exact h1.done m hm h0 (by simp;exact⟨e,hx⟩) d hd hf hl,h1.pre⟩
  obtain⟨lev'',e3,L''⟩:=M50_L2_ok F I hs hN hE n qs' lev' L' (by omega) (by omega)
  exact⟨lev'',e.trans e3,L''⟩
theorem M50_L1_ok(F:Nat)(k:List Int->Option (List Int)):∀(m n:Nat) (l:List Int),n+m=l.length->(∀i,i<n->l[i]? = some (-1))->M50_L1 F k m n l=k (List.replicate l.length (-1))
 |0,n,l,h,hl=>by
  rw[M50_L1]
  congr 1
  apply List.ext_getElem?
  intro i
  by_cases hi:i<l.length
  ·rw[hl i (by omega),List.getElem?_replicate,if_pos hi]
  ·rw[List.getElem?_eq_none (by omega),List.getElem?_eq_none (by simp;omega)]
 |m+1,n,l,h,hl=>by
  rw[M50_L1,idx_nat (show n<l.length by omega),Option.bind_some,Int.toNat_natCast]
  have hcast:((n:Int)+1)=((n+1:Nat):Int):=by omega
  rw[hcast,M50_L1_ok F k m (n+1) (l.set n (-1)) (by simp;omega) (fun i hi=>by
   rw[List.getElem?_set]
   by_cases e:n=i
   ·rw[if_pos e,if_pos (by omega)]
   ·rw[if_neg e];exact hl i (by omega))]
  simp
theorem levels_ok(F:Nat)(I:NetI N E ps fl G)(hs:s<N)(hN:N<=1000000000)(hE:E.length<=1000000000)(hF:N+5<=F)(a3 a4:List Int):∃lev,M50 F s G a3 a4=some lev/\LInv N E fl s lev []:=by
 have hl:=I.len
 have hcount:neg (List.replicate N (-1:Int))=N:=by unfold neg;rw[List.countP_replicate];simp
 have hv:∀n,lvl (List.replicate N (-1:Int)) n = -1:=by
  intro n;unfold lvl
  rw[List.getD_eq_getElem?_getD,List.getElem?_replicate]
  split<;>rfl
 have hsr:s<(List.replicate N (-1:Int)).length:=by simpa using hs
 have key:=lvl_set hsr 0
 have hn:=neg_set hsr (by simp) (v:=0) (by omega)
 rw[hcount] at hn
 have L:LInv N E fl s ((List.replicate N (-1:Int)).set s 0) [s]:=by
  refine⟨by simp,by rw[key,if_pos rfl],fun n _=>?_,fun n _=>?_,fun x hx=>?_,fun n hn' h0 hx=>?_,fun n hn' h0 hx=>?_⟩
  ·rw[key,hv];split<;>omega
  ·rw[key,hv];split<;>omega
  ·simp only[List.mem_singleton] at hx
   subst hx;exact⟨hs,by rw[key,if_pos rfl];omega⟩
  ·rw[key,hv] at h0
   split at h0
   ·rename_i e;exact absurd (by simpa using e) hx
   ·omega
  ·rw[key,hv] at h0
   split at h0
   ·rename_i e;exact absurd e hx
   ·omega
 obtain⟨lev,e,L'⟩:=M50_L2_ok F I hs hN hE F [s] _ L (by simp;omega) (by simp;omega)
 refine⟨lev,?_,L'⟩
 unfold M50
 rw[if_pos (by rw[hl];omega),jn_def]
 refine(M50_L1_ok F _ _ 0 _ (by simp) (fun i hi=>by omega)).trans ?_
 simp only[List.length_replicate,Int.toNat_natCast,hl]
 rw[idx_nat hsr,Option.bind_some]
 exact e
theorem LInv.path{lev:List Int}{t:Nat}(L:LInv N E fl s lev [])(ht:t<N)(h0:0<=lvl lev t)(I:NetI N E ps fl G):Pth E fl lev t s:=by
 have key:∀(q:Nat) (n:Nat),n<N->lvl lev n=q->Pth E fl lev t n->Pth E fl lev t s:=by
  intro q
  induction q with
  |zero=>
   intro n hn hq hp
   by_cases e:n=s
   ·rw[<-e];exact hp
   ·obtain⟨d,h1,h2,h3,h4,h5⟩:=L.pre n hn (by omega) e
    omega
  |succ q ih=>
   intro n hn hq hp
   by_cases e:n=s
   ·rw[<-e];exact hp
   ·obtain⟨d,h1,h2,h3,h4,h5⟩:=L.pre n hn (by omega) e
    exact ih (frm E d) (I.lt d h1) (by omega) (.step h1 ⟨h3,by rw[h2];exact h5⟩ (by rw[h2];exact hp))
 exact key (lvl lev t).toNat t ht (by omega) .here
theorem LInv.bnd{lev:List Int}{X:List Nat}(L:LInv N E fl s lev X):∀n,n<N->lvl lev n<(N:Int):=fun n hn=>by have:=L.cnt n hn;omega
end
section
variable{N:Nat}{E:List Eg}{ps:Dt->Nat}{s t:Nat}
def Cons(N:Nat)(E:List Eg)(s t:Nat)(fl:Nat->Int):Prop:=∀n,n<N->n≠s->n≠t->ex E fl n=0
theorem M19_L2_ok(F:Nat)(hs:s<N)(ht:t<N)(hst:s≠t)(hN:N<=1000000000)(hE:E.length<=1000000000)(hF:N+E.length+3<=F){lev:List Int}(hlev:lev.length=N)(hb:∀n,n<N->lvl lev n<(N:Int))(h0:lvl lev s=0)
  (k:Gr->List Int->Option (Gr×List Int×List Int)):∀(n:Nat) (G:Gr) (nx:List Int) (fl:Nat->Int),NetI N E ps fl G->NxOk G nx->Cons N E s t fl->1099511627776*(E.length:Int) - ex E fl t<n->
   ∃G' nx' fl',M19_L2 F s t lev k n G nx=k G' nx'/\NetI N E ps fl' G'/\Cons N E s t fl'/\ex E fl t<=ex E fl' t/\(Dead E ps fl lev t nx->Pth E fl lev t s->ex E fl t<ex E fl' t)
 |0,G,nx,fl,I,hn,hc,hm=>by
  have:=I.ex_le t
  omega
 |n+1,G,nx,fl,I,hn,hc,hm=>by
  obtain⟨b,G',nx',e,p1,p2,p3,p4⟩:=push_ok hE hN ht hlev hb N F s G nx fl I hn hs (by omega) (by omega) (by omega)
  rw[M19_L2,e,Option.bind_some]
  cases b with
  |true=>
   simp only[if_true]
   obtain⟨fl',I',hex,_⟩:=p4 rfl
   have et:ex E fl' t=ex E fl t+1:=by rw[hex,if_pos rfl,if_neg hst];omega
   obtain⟨G2,nx2,fl2,e2,I2,c2,l2,_⟩:=M19_L2_ok F hs ht hst hN hE hF hlev hb h0 k n G' nx' fl' I' p1 (fun m hm h1 h2=>by rw[hex,hc m hm h1 h2,if_neg (fun e=>h2 e.symm),if_neg (fun e=>h1 e.symm)];rfl) (by rw[et];omega)
   exact⟨G2,nx2,fl2,e2,I2,c2,by omega,fun _ _=>by omega⟩
  |false=>
   simp only[Bool.false_eq_true,if_false]
   obtain⟨eG,hD⟩:=p3 rfl
   subst eG
   exact⟨G',nx',fl,rfl,I,hc,by omega,fun h1 h2=>absurd h2 (hD h1).2⟩
theorem M19_L1_ok(F:Nat)(hs:s<N)(ht:t<N)(hst:s≠t)(hN:N<=1000000000)(hE:E.length<=1000000000)(hF:1099511627776*E.length+1099511627776+N+E.length+5<=F):
  ∀(n:Nat) (G:Gr) (l40 l41:List Int) (fl:Nat->Int),NetI N E ps fl G->Cons N E s t fl->0<=ex E fl t->1099511627776*(E.length:Int) - ex E fl t<n->
   ∃G' lev nx' fl',M19_L1 F s t n G l40 l41=some (G',lev,nx')/\NetI N E ps fl' G'/\Cons N E s t fl'/\LInv N E fl' s lev []/\lvl lev t<0
 |0,G,l40,l41,fl,I,hc,h0,hm=>by
  have:=I.ex_le t
  omega
 |n+1,G,l40,l41,fl,I,hc,h0,hm=>by
  obtain⟨lev,e,L⟩:=levels_ok F I hs hN hE (by omega) l40 l41
  rw[M19_L1,jn_def,e,Option.bind_some,idx_lvl (by rw[L.len];exact ht),Option.bind_some]
  by_cases hv:lvl lev t<0
  ·rw[if_pos (by simpa using hv)]
   exact⟨G,lev,l41,fl,rfl,I,hc,L,hv⟩
  ·rw[if_neg (by simpa using hv),if_pos (by rw[I.len];omega),jn_def]
   have hlen:(List.replicate (((G.length:Nat):Int)).toNat (0:Int))=List.replicate N 0:=by rw[I.len];rfl
   rw[hlen]
   have hnx:NxOk G (List.replicate N 0):=by
    intro i row hr
    have hi:=(List.getElem?_eq_some_iff.1 hr).1
    rw[I.len] at hi
    exact⟨0,by rw[List.getElem?_replicate,if_pos hi];rfl,by omega⟩
   obtain⟨G',nx',fl',e2,I',c',l',st⟩:=M19_L2_ok F hs ht hst hN hE (by omega) L.len L.bnd L.src (fun l54 l55=>jn (fun(l43:Gr) (l44:List Int) (l45:List Int)=>M19_L1 F s t n l43 l44 l45) (fun k42=>k42 l54 lev l55)) F G (List.replicate N 0) fl I hnx hc (by omega)
   have lt:=st (fun d hd q h1 h2=>by
    rw[List.getElem?_replicate,if_pos (I.lt d hd)] at h1
    simp only[Option.some.injEq] at h1
    omega) (L.path ht (by omega) I)
   obtain⟨G3,lev3,nx3,fl3,e3,I3,c3,L3,v3⟩:=M19_L1_ok F hs ht hst hN hE hF n G' lev nx' fl' I' c' (by omega) (by omega)
   exact⟨G3,lev3,nx3,fl3,e2.trans e3,I3,c3,L3,v3⟩
theorem flow_ok(F:Nat)(hs:s<N)(ht:t<N)(hst:s≠t)(hN:N<=1000000000)(hE:E.length<=1000000000)(hF:1099511627776*E.length+1099511627776+N+E.length+5<=F){G:Gr}(a4 a5:List Int)(I:NetI N E ps (fun _=>0) G):
      ∃G' lev nx' fl',M19 F s t G a4 a5=some (G',lev,nx')/\NetI N E ps fl' G'/\Cons N E s t fl'/\LInv N E fl' s lev []/\lvl lev t<0:=by
  have h0:∀n,ex E (fun _=>0) n=0:=fun n=>sm_zero' fun k _=>by split<;>split<;>rfl
  exact M19_L1_ok F hs ht hst hN hE hF F G a4 a5 _ I (fun n _ _ _=>h0 n) (by rw[h0];omega) (by rw[h0];omega)
end
theorem at2_app{G:Gr}{i:Nat}{row:List Treach_arc}(a:Treach_arc)(hr:G[i]? = some row)(i' p':Nat):
  at2 (G.set i (row++[a])) i' p'=if i'=i/\p'=row.length then some a else at2 G i' p':=by
 have hi:=(List.getElem?_eq_some_iff.1 hr).1
 unfold at2
 rw[List.getElem?_set]
 by_cases e:i=i'
 ·subst e
  rw[if_pos rfl,if_pos hi,hr,Option.bind_some,Option.bind_some]
  by_cases e:p'=row.length
  ·subst e;simp
  ·rw[if_neg (fun q=>e q.2),List.getElem?_append]
   split
   ·rfl
   ·rename_i h
    rw[List.getElem?_eq_none (by simp;omega),List.getElem?_eq_none (by omega)]
 ·rw[if_neg e,if_neg (fun q=>e q.1.symm)]
theorem eg_app(E:List Eg)(e:Eg)(k:Nat):eg (E++[e]) k=if k=E.length then e else eg E k:=by
 unfold eg
 rw[List.getElem?_append]
 by_cases h:k=E.length
 ·subst h;simp
 ·rw[if_neg h]
  split
  ·rfl
  ·rename_i h'
   rw[List.getElem?_eq_none (by simp;omega),List.getElem?_eq_none (by omega)]
theorem add_ok(F:Nat){N:Nat}{E:List Eg}{ps:Dt->Nat}{G:Gr}(I:NetI N E ps (fun _=>0) G)(hE:E.length<=1000000000){a b:Nat}(ha:a<N)(hb:b<N)(hne:a≠b){c:Int}(h0:0<=c)(hc:c<=1099511627776)(a5 a6:List Int):
    ∃ps' G',M17 F a b c G a5 a6=some G'/\NetI N (E++[(a,b,c)]) ps' (fun _=>0) G':=by
  have ha':a<G.length:=by rw[I.len];exact ha
  have hb':b<G.length:=by rw[I.len];exact hb
  obtain⟨ra,hra⟩:∃ra,G[a]? = some ra:=⟨_,List.getElem?_eq_getElem ha'⟩
  obtain⟨rb,hrb⟩:∃rb,G[b]? = some rb:=⟨_,List.getElem?_eq_getElem hb'⟩
  have la:=I.rl a ra hra
  have lb:=I.rl b rb hrb
  have q1:∀x,(G.set a x)[b]? = some rb:=fun x=>by rw[List.getElem?_set_ne hne];exact hrb
  have q2:∀x:List Treach_arc,(G.set a x)[a]? = some x:=fun x=>by rw[List.getElem?_set_self ha']
  refine⟨fun d=>if d.1=E.length then (if d.2=true then rb.length else ra.length) else ps d,(G.set a (ra++[Treach_arc.mk b c rb.length])).set b (rb++[Treach_arc.mk a 0 ra.length]),?_,?_⟩
  · unfold M17
    rw[idx_q hra,Option.bind_some,idx_q hrb,Option.bind_some,if_pos (by simp;omega)]
    simp only[Int.toNat_natCast]
    rw[idx_q (q1 _),Option.bind_some,idx_q (q2 _),Option.bind_some]
    have hw:w64 (((ra++[Treach_arc.mk (b:Int) c ((rb.length:Nat):Int)]).length:Nat) - 1)=((ra.length:Nat):Int):=by
      rw[w64_id (by simp) (by simp;omega)];simp
    rw[hw,if_pos (by simp;omega)]
  · have key:∀i p,at2 ((G.set a (ra++[Treach_arc.mk b c rb.length])).set b (rb++[Treach_arc.mk a 0 ra.length])) i p =
        if i=b/\p=rb.length then some (Treach_arc.mk a 0 ra.length) else if i=a/\p=ra.length then some (Treach_arc.mk b c rb.length) else at2 G i p:=fun i p=>by
      rw[at2_app _ (q1 _),at2_app _ hra]
    have old:∀d:Dt,d.1<E.length->frm (E++[(a,b,c)]) d=frm E d/\tow (E++[(a,b,c)]) d=tow E d/\lft (E++[(a,b,c)]) (fun _=>0) d=lft E (fun _=>0) d:=fun d hd=>by
      unfold frm tow lft
      have e:eg (E++[(a,b,c)]) d.1=eg E d.1:=by rw[eg_app,if_neg (by omega)]
      rw[e]
      exact⟨rfl,rfl,rfl⟩
    have nw:∀d:Dt,d.1=E.length->frm (E++[(a,b,c)]) d=(if d.2=true then b else a)/\tow (E++[(a,b,c)]) d=(if d.2=true then a else b)/\lft (E++[(a,b,c)]) (fun _=>0) d=(if d.2=true then 0 else c):=fun d hd=>by
      unfold frm tow lft
      rw[eg_app,if_pos hd]
      refine⟨rfl,rfl,?_⟩
      simp
    have low:∀d:Dt,d.1<E.length->∀row,G[frm E d]? = some row->ps d<row.length:=fun d hd row hr=>by
      obtain⟨row',h1,h2⟩:=at2_row (I.at_ d hd)
      rw[hr] at h1;cases h1
      exact(List.getElem?_eq_some_iff.1 h2).1
    refine⟨by simpa using I.len,fun d hd=>?_,fun d hd=>?_,fun d hd=>?_,fun i p x hx=>?_,fun d d' hd hd' hf hp=>?_,fun d hd=>?_,fun k hk=>?_,fun i r hr0=>?_⟩
    · simp at hd
      by_cases e:d.1=E.length
      · rw[(nw d e).1,(nw d e).2.1];split<;>omega
      · rw[(old d (by omega)).1,(old d (by omega)).2.1];exact I.ne d (by omega)
    · simp at hd
      by_cases e:d.1=E.length
      · rw[(nw d e).1];split<;>omega
      · rw[(old d (by omega)).1];exact I.lt d (by omega)
    · simp at hd
      rw[key]
      by_cases e:d.1=E.length
      · rw[(nw d e).1,(nw d e).2.1,(nw d e).2.2]
        obtain⟨k,bb⟩:=d
        simp only at e
        subst e
        cases bb
        · simp[rev,hne]
        · simp[rev]
      · have hd':d.1<E.length:=by omega
        rw[(old d hd').1,(old d hd').2.1,(old d hd').2.2]
        simp only[rev,e,if_false]
        rw[if_neg (fun q=>by have:=low d hd' rb (by rw[q.1];exact hrb);omega),if_neg (fun q=>by have:=low d hd' ra (by rw[q.1];exact hra);omega)]
        exact I.at_ d hd'
    · rw[key] at hx
      split at hx
      · rename_i q
        refine⟨(E.length,true),by simp,?_,?_⟩
        · rw[(nw _ rfl).1];simp[q.1]
        · simp[q.2]
      · split at hx
        · rename_i q
          refine⟨(E.length,false),by simp,?_,?_⟩
          · rw[(nw _ rfl).1];simp[q.1]
          · simp[q.2]
        · obtain⟨d,hd,h1,h2⟩:=I.all i p x hx
          refine⟨d,by simp;omega,by rw[(old d hd).1,h1],?_⟩
          show(if d.1=E.length then _ else ps d)=p
          rw[if_neg (by omega),h2]
    · simp at hd hd'
      by_cases e:d.1=E.length
      · by_cases e':d'.1=E.length
        · rw[(nw d e).1,(nw d' e').1] at hf
          obtain⟨k,bb⟩:=d
          obtain⟨k',bb'⟩:=d'
          simp only at e e'
          subst e;subst e'
          cases bb<;>cases bb'<;>simp at hf<;>first|rfl|omega
        · exfalso
          have hd2:d'.1<E.length:=by omega
          rw[(nw d e).1,(old d' hd2).1] at hf
          simp only[e,e',if_true,if_false] at hp
          cases h:d.2
          · rw[h] at hf hp
            simp only[Bool.false_eq_true,if_false] at hf hp
            have:=low d' hd2 ra (by rw[<-hf];exact hra)
            omega
          · rw[h] at hf hp
            simp only[if_true] at hf hp
            have:=low d' hd2 rb (by rw[<-hf];exact hrb)
            omega
      · have hd2:d.1<E.length:=by omega
        by_cases e':d'.1=E.length
        · exfalso
          rw[(nw d' e').1,(old d hd2).1] at hf
          simp only[e,e',if_true,if_false] at hp
          cases h:d'.2
          · rw[h] at hf hp
            simp only[Bool.false_eq_true,if_false] at hf hp
            have:=low d hd2 ra (by rw[hf];exact hra)
            omega
          · rw[h] at hf hp
            simp only[if_true] at hf hp
            have:=low d hd2 rb (by rw[hf];exact hrb)
            omega
        · simp only[e,e',if_false] at hp
          rw[(old d hd2).1,(old d' (by omega)).1] at hf
          exact I.inj d d' hd2 (by omega) hf hp
    · simp at hd
      by_cases e:d.1=E.length
      · rw[(nw d e).2.2];split<;>omega
      · rw[(old d (by omega)).2.2];exact I.pos d (by omega)
    · simp at hk
      rw[eg_app]
      split
      · exact hc
      · exact I.cap k (by omega)
    · simp only[List.length_append,List.length_cons,List.length_nil]
      rw[List.getElem?_set] at hr0
      split at hr0
      · rw[if_pos (by simpa using hb')] at hr0
        simp only[Option.some.injEq] at hr0
        subst hr0;simp;omega
      · rw[List.getElem?_set] at hr0
        split at hr0
        · simp only[Option.some.injEq] at hr0
          subst hr0;simp;omega
        · have:=I.rl i r hr0;omega
set_option linter.unusedSectionVars false
abbrev BIG:Int:=1099511627776
section
variable{σ φ:Type}[DecidableEq σ][DecidableEq φ]
structure EStr(N n:Nat)(E:List Eg)(Ls:List σ)(Fs:List φ)(fn:σ->φ)(tos:σ->φ->Prop)(Z:φ->Prop)(nd:σ->Nat)(fi:φ->Nat)(src:Nat):Prop where
 ln:Ls.Nodup
 fnd:Fs.Nodup
 inF:∀s,s∈Ls->fn s∈Fs
 ndN:∀s,s∈Ls->n<=nd s/\nd s<src
 fiN:∀f,f∈Fs->fi f<n
 srcN:src+1=N
 nsrc:n<=src
 ndI:∀s s',s∈Ls->s'∈Ls->nd s=nd s'->s=s'
 fiI:∀f f',f∈Fs->f'∈Fs->fi f=fi f'->f=f'
 ty:∀k,k<E.length->(∃s,s∈Ls/\eg E k=(fi (fn s),nd s,1))\/(∃s y,s∈Ls/\y∈Fs/\tos s y/\eg E k=(nd s,fi y,BIG))\/(∃y,y∈Fs/\Z y/\eg E k=(src,fi y,BIG))
 e2:∀s,s∈Ls->∃k,k<E.length/\eg E k=(fi (fn s),nd s,1)
 e3:∀k k',k<E.length->k'<E.length->(eg E k).2.1=(eg E k').2.1->n<=(eg E k).2.1->k=k'
 e4:∀s y,s∈Ls->y∈Fs->tos s y->∃k,k<E.length/\eg E k=(nd s,fi y,BIG)
 e5:∀y,y∈Fs->Z y->∃k,k<E.length/\eg E k=(src,fi y,BIG)
def uE(E:List Eg)(fl:Nat->Int)(nd:σ->Nat)(s:σ):Int:=sm (List.range E.length) (fun k=>if (eg E k).2.1=nd s then fl k else 0)
def vE(E:List Eg)(fl:Nat->Int)(nd:σ->Nat)(fi:φ->Nat)(s:σ)(y:φ):Int:=sm (List.range E.length) (fun k=>if (eg E k).1=nd s/\(eg E k).2.1=fi y then fl k else 0)
theorem sm_pos{α:Type}{l:List α}{f:α->Int}(h:0<sm l f):∃x,x∈l/\0<f x:=by
 by_cases h':∃x,x∈l/\0<f x
 ·exact h'
 ·have:=sm_le (l:=l) (f:=f) (g:=fun _=>0) (fun x hx=>by
   by_cases p:0<f x
   ·exact absurd ⟨x,hx,p⟩ h'
   ·omega)
  rw[sm_zero] at this
  omega
theorem ex_split(E:List Eg)(fl:Nat->Int)(n:Nat):ex E fl n=sm (List.range E.length) (fun k=>if (eg E k).2.1=n then fl k else 0) - sm (List.range E.length) (fun k=>if (eg E k).1=n then fl k else 0):=by
 unfold ex;rw[sm_sub]
variable{N n:Nat}{E:List Eg}{Ls:List σ}{Fs:List φ}{fn:σ->φ}{tos:σ->φ->Prop}{Z:φ->Prop}{nd:σ->Nat}{fi:φ->Nat}{src:Nat}{t:φ}{fl:Nat->Int}
theorem EStr.inE(S:EStr N n E Ls Fs fn tos Z nd fi src){f:φ}(hf:f∈Fs)(hz:¬Z f):sm Ls (fun s=>vE E fl nd fi s f)=sm (List.range E.length) (fun k=>if (eg E k).2.1=fi f then fl k else 0):=by
 unfold vE
 rw[sm_swap]
 refine sm_congr fun k hk=>?_
 have hk:=List.mem_range.1 hk
 by_cases h:(eg E k).2.1=fi f
 ·rw[if_pos h]
  rcases S.ty k hk with ⟨s,hs,e⟩|⟨s,y,hs,hy,ht,e⟩|⟨y,hy,hzy,e⟩
  ·have:=S.ndN s hs;have:=S.fiN f hf;rw[e] at h;simp only at h;omega
  ·rw[e] at h ⊢
   simp only at h ⊢
   rw[sm_one (a:=s) _ S.ln hs (fun x hx hne=>by rw[if_neg (fun q=>hne (S.ndI _ _ hx hs q.1.symm))])]
   rw[if_pos ⟨rfl,h⟩]
  ·rw[e] at h
   have:=S.fiI _ _ hy hf h
   subst this
   exact absurd hzy hz
 ·rw[if_neg h]
  exact sm_zero' fun s _=>if_neg (fun q=>h q.2)
theorem EStr.outE(S:EStr N n E Ls Fs fn tos Z nd fi src){f:φ}(hf:f∈Fs):sm Ls (fun s=>if fn s=f then uE E fl nd s else 0)=sm (List.range E.length) (fun k=>if (eg E k).1=fi f then fl k else 0):=by
 have e0:sm Ls (fun s=>if fn s=f then uE E fl nd s else 0)=sm Ls (fun s=>sm (List.range E.length) (fun k=>if fn s=f/\(eg E k).2.1=nd s then fl k else 0)):=by
  refine sm_congr fun s _=>?_
  by_cases h:fn s=f
  ·rw[if_pos h]
   unfold uE
   refine sm_congr fun k _=>?_
   simp[h]
  ·rw[if_neg h]
   exact(sm_zero' fun k _=>if_neg (fun q=>h q.1)).symm
 rw[e0,sm_swap]
 refine sm_congr fun k hk=>?_
 have hk:=List.mem_range.1 hk
 have key:∀s,s∈Ls->(eg E k).2.1=nd s->eg E k=(fi (fn s),nd s,1):=by
  intro s hs h
  obtain⟨k',hk',e⟩:=S.e2 s hs
  have:=S.e3 k k' hk hk' (by rw[e];exact h) (by rw[h];exact(S.ndN s hs).1)
  rw[this];exact e
 by_cases h:(eg E k).1=fi f
 ·rw[if_pos h]
  rcases S.ty k hk with ⟨s,hs,e⟩|⟨s,y,hs,hy,ht,e⟩|⟨y,hy,hzy,e⟩
  ·rw[e] at h
   have hfn:=S.fiI _ _ (S.inF s hs) hf h
   rw[sm_one (a:=s) _ S.ln hs (fun x hx hne=>by
    rw[if_neg]
    rintro⟨_,q⟩
    rw[e] at q
    exact hne (S.ndI _ _ hx hs q.symm)),if_pos ⟨hfn,by rw[e]⟩]
  ·have:=S.ndN s hs;have:=S.fiN f hf;rw[e] at h;simp only at h;omega
  ·have:=S.nsrc;have:=S.fiN f hf;rw[e] at h;simp only at h;omega
 ·rw[if_neg h]
  refine sm_zero' fun s hs=>if_neg ?_
  rintro⟨q1,q2⟩
  rw[key s hs q2,q1] at h
  exact h rfl
theorem EStr.uv(S:EStr N n E Ls Fs fn tos Z nd fi src)(htF:t∈Fs)(hp:∀d:Dt,d.1<E.length->0<=lft E fl d)(hc:Cons N E src (fi t) fl):UV Ls Fs fn tos Z t (uE E fl nd) (vE E fl nd fi):=by
 have h0:∀k,k<E.length->0<=fl k:=fun k hk=>by have:=hp (k,true) hk;simpa[lft] using this
 refine⟨S.fnd,S.inF,fun s hs=>?_,fun s hs=>?_,fun s hs y hy=>?_,fun s hs y hy hv=>?_,fun s hs=>?_,fun f hf hz hft=>?_⟩
 ·exact sm_nonneg fun k hk=>by split;exact h0 k (List.mem_range.1 hk);exact Int.le_refl _
 ·obtain⟨k,hk,e⟩:=S.e2 s hs
  unfold uE
  rw[sm_one (a:=k) _ List.nodup_range (List.mem_range.2 hk) (fun k' hk' hne=>by
   rw[if_neg]
   intro q
   exact hne (S.e3 k' k (List.mem_range.1 hk') hk (by rw[e];exact q) (by rw[q];exact(S.ndN s hs).1))),if_pos (by rw[e])]
  have:=hp (k,false) hk
  simp only[lft,e,Bool.false_eq_true,if_false] at this
  omega
 ·exact sm_nonneg fun k hk=>by split;exact h0 k (List.mem_range.1 hk);exact Int.le_refl _
 ·obtain⟨k,hk,h⟩:=sm_pos hv
  have hk:=List.mem_range.1 hk
  split at h
  ·rename_i q
   rcases S.ty k hk with ⟨s',hs',e⟩|⟨s',y',hs',hy',ht,e⟩|⟨y',hy',hzy,e⟩
   ·rw[e] at q
    have:=S.fiN _ (S.inF s' hs');have:=(S.ndN s hs).1
    have:=q.1;simp only at this;omega
   ·rw[e] at q
    rw[<-S.ndI _ _ hs' hs q.1,<-S.fiI _ _ hy' hy q.2]
    exact ht
   ·rw[e] at q
    have:=S.ndN s hs
    have:=q.1;simp only at this;omega
  ·omega
 ·have hn:=S.ndN s hs
  have ht:=S.fiN t htF
  have hsr:=S.srcN
  have c:=hc (nd s) (by omega) (by omega) (by omega)
  rw[ex_split] at c
  have e1:sm Fs (vE E fl nd fi s)=sm (List.range E.length) (fun k=>if (eg E k).1=nd s then fl k else 0):=by
   unfold vE
   rw[sm_swap]
   refine sm_congr fun k hk=>?_
   have hk:=List.mem_range.1 hk
   by_cases h:(eg E k).1=nd s
   ·rw[if_pos h]
    rcases S.ty k hk with ⟨s',hs',e⟩|⟨s',y',hs',hy',ht,e⟩|⟨y',hy',hzy,e⟩
    ·have:=S.fiN _ (S.inF s' hs');rw[e] at h;simp only at h;omega
    ·rw[sm_one (a:=y') _ S.fnd hy' (fun x hx hne=>by
      rw[if_neg]
      rintro⟨_,q⟩
      rw[e] at q
      exact hne (S.fiI _ _ hx hy' q.symm)),if_pos ⟨h,by rw[e]⟩]
    ·rw[e] at h;simp only at h;omega
   ·rw[if_neg h]
    exact sm_zero' fun y _=>if_neg (fun q=>h q.1)
  rw[e1]
  unfold uE
  omega
 ·have hn:=S.fiN f hf
  have hsr:=S.srcN
  have hns:=S.nsrc
  have c:=hc (fi f) (by omega) (by omega) (fun e=>hft (S.fiI _ _ hf htF e))
  rw[ex_split] at c
  rw[sm_sub,S.outE hf,S.inE hf hz]
  omega
theorem EStr.closed(S:EStr N n E Ls Fs fn tos Z nd fi src)(htF:t∈Fs)(hzt:¬Z t)(hp:∀d:Dt,d.1<E.length->0<=lft E fl d)(hlt:∀d:Dt,d.1<E.length->frm E d<N)(hc:Cons N E src (fi t) fl){lev:List Int}(L:LInv N E fl src lev [])(hv:lvl lev (fi t)<0)(hm:Ls.length<=1000000000):
  UCl Ls Fs fn tos Z t (uE E fl nd) (vE E fl nd fi) (fun f=>decide (0<=lvl lev (fi f))) (fun s=>decide (0<=lvl lev (nd s))):=by
 have U:=S.uv htF hp hc
 have h0:∀k,k<E.length->0<=fl k:=fun k hk=>by have:=hp (k,true) hk;simpa[lft] using this
 have hsr:=S.srcN
 have hns:=S.nsrc
 have rng:∀(k:Nat),k∈List.range E.length->k<E.length:=fun k hk=>List.mem_range.1 hk
 have fl2:∀k s y,k<E.length->s∈Ls->y∈Fs->eg E k=(nd s,fi y,BIG)->fl k<=1:=by
  intro k s y hk hs hy e
  have g1:fl k<=vE E fl nd fi s y:=by
   have:=sm_ge (l:=List.range E.length) (f:=fun k=>if (eg E k).1=nd s/\(eg E k).2.1=fi y then fl k else 0) (fun x hx=>by split;exact h0 x (rng x hx);exact Int.le_refl _) (List.mem_range.2 hk)
   simp only[e,and_self,if_true] at this
   exact this
  have g2:=sm_ge (fun y hy=>U.v0 s hs y hy) hy
  have g3:=U.sum s hs
  have g4:=U.u1 s hs
  omega
 have fl3:∀k y,k<E.length->y∈Fs->eg E k=(src,fi y,BIG)->fl k<=1000000000:=by
  intro k y hk hy e
  have a1:sm (List.range N) (ex E fl)=0:=by
   unfold ex
   rw[sm_swap]
   refine sm_zero' fun k hk=>?_
   have hk:=rng k hk
   have l1:=hlt (k,false) hk
   have l2:=hlt (k,true) hk
   simp only[frm,Bool.false_eq_true,if_false,if_true] at l1 l2
   rw[sm_sub,sm_one (a:=(eg E k).2.1) _ List.nodup_range (List.mem_range.2 l2) (fun x _ hx=>if_neg (fun q=>hx q.symm)),sm_one (a:=(eg E k).1) _ List.nodup_range (List.mem_range.2 l1) (fun x _ hx=>if_neg (fun q=>hx q.symm))]
   simp
  have a2:sm (List.range N) (fun n=>ex E fl n - (if n=src then ex E fl src else 0))=ex E fl (fi t):=by
   have:=S.fiN t htF
   rw[sm_one (a:=fi t) _ List.nodup_range (List.mem_range.2 (by omega)) (fun x hx hne=>by
    split
    ·rename_i q;rw[q];omega
    ·rename_i q;rw[hc x (List.mem_range.1 hx) q hne];rfl),if_neg (by omega)]
   omega
  rw[sm_sub,a1,sm_one (a:=src) _ List.nodup_range (List.mem_range.2 (by omega)) (fun x _ hx=>if_neg hx),if_pos rfl] at a2
  have a3:=ex_split E fl src
  have a4:sm (List.range E.length) (fun k=>if (eg E k).2.1=src then fl k else 0)=0:=sm_zero' fun k hk=>if_neg (fun q=>by
   rcases S.ty k (rng k hk) with ⟨s',hs',e⟩|⟨s',y',hs',hy',ht,e⟩|⟨y',hy',hzy,e⟩
   ·have:=S.ndN _ hs';rw[e] at q;simp only at q;omega
   ·have:=S.fiN _ hy';rw[e] at q;simp only at q;omega
   ·have:=S.fiN _ hy';rw[e] at q;simp only at q;omega)
  have a5:=sm_ge (l:=List.range E.length) (f:=fun k=>if (eg E k).1=src then fl k else 0) (fun x hx=>by split;exact h0 x (rng x hx);exact Int.le_refl _) (List.mem_range.2 hk)
  simp only[e,if_true] at a5
  have a6:=ex_split E fl (fi t)
  rw[<-S.inE htF hzt] at a6
  have a7:0<=sm (List.range E.length) (fun k=>if (eg E k).1=fi t then fl k else 0):=sm_nonneg fun x hx=>by split;exact h0 x (rng x hx);exact Int.le_refl _
  have a8:sm Ls (fun s=>vE E fl nd fi s t)<=sm Ls (fun _=>1):=sm_le fun s hs=>by
   have g2:=sm_ge (fun y hy=>U.v0 s hs y hy) htF
   have g3:=U.sum s hs
   have g4:=U.u1 s hs
   omega
  have a9:∀l:List σ,sm l (fun _=>(1:Int))=(l.length:Int):=by
   intro l
   induction l with
   |nil=>rfl
   |cons x l ih=>rw[sm_cons,ih,List.length_cons];omega
  rw[a9] at a8
  omega
 have fw:∀(k a b:Nat) (c:Int),k<E.length->eg E k=(a,b,c)->a<N->fl k<c->0<=lvl lev a->0<=lvl lev b:=by
  intro k a b c hk e ha hl h
  have:=L.done a ha h (by simp) (k,false) hk (by simp[frm,e]) (by simp[lft,e];omega)
  simpa[tow,e] using this
 have bw:∀(k a b:Nat) (c:Int),k<E.length->eg E k=(a,b,c)->b<N->0<fl k->0<=lvl lev b->0<=lvl lev a:=by
  intro k a b c hk e hb hl h
  have:=L.done b hb h (by simp) (k,true) hk (by simp[frm,e]) (by simp[lft];omega)
  simpa[tow,e] using this
 refine⟨fun f hf hz=>?_,by simpa using hv,fun s hs hS hu=>?_,fun s hs hT y hy hty=>?_,fun s hs hT hu=>?_,fun s hs y hy hS hvp=>?_⟩
 ·obtain⟨k,hk,e⟩:=S.e5 f hf hz
  have:=fl3 k f hk hf e
  have q:=fw k _ _ _ hk e (by omega) (by unfold BIG;omega) (by rw[L.src];omega)
  simpa using q
 ·obtain⟨k,hk,e⟩:=S.e2 s hs
  have hn:=S.ndN s hs
  have hf:=S.fiN _ (S.inF s hs)
  have g1:=sm_ge (l:=List.range E.length) (f:=fun k=>if (eg E k).2.1=nd s then fl k else 0) (fun x hx=>by split;exact h0 x (rng x hx);exact Int.le_refl _) (List.mem_range.2 hk)
  simp only[e,if_true] at g1
  unfold uE at hu
  have q:=fw k _ _ _ hk e (by omega) (by omega) (by simpa using hS)
  simpa using q
 ·obtain⟨k,hk,e⟩:=S.e4 s y hs hy hty
  have hn:=S.ndN s hs
  have:=fl2 k s y hk hs hy e
  have q:=fw k _ _ _ hk e (by omega) (by unfold BIG;omega) (by simpa using hT)
  simpa using q
 ·obtain⟨k,hk,e⟩:=S.e2 s hs
  have hn:=S.ndN s hs
  have e1:uE E fl nd s=fl k:=by
   unfold uE
   rw[sm_one (a:=k) _ List.nodup_range (List.mem_range.2 hk) (fun k' hk' hne=>by
    rw[if_neg]
    intro q
    exact hne (S.e3 k' k (List.mem_range.1 hk') hk (by rw[e];exact q) (by rw[q];exact(S.ndN s hs).1))),if_pos (by rw[e])]
  have q:=bw k _ _ _ hk e (by omega) (by omega) (by simpa using hT)
  simpa using q
 ·obtain⟨k,hk,h⟩:=sm_pos hvp
  have hk:=rng k hk
  split at h
  ·rename_i q
   have hy':=S.fiN y hy
   have:=bw k (eg E k).1 (eg E k).2.1 (eg E k).2.2 hk rfl (by rw[q.2];omega) h (by rw[q.2];simpa using hS)
   rw[q.1] at this
   simpa using this
  ·omega
theorem EStr.least(S:EStr N n E Ls Fs fn tos Z nd fi src)(htF:t∈Fs)(hp:∀d:Dt,d.1<E.length->0<=lft E fl d)(hlt:∀d:Dt,d.1<E.length->frm E d<N)(hc:Cons N E src (fi t) fl){lev:List Int}(L:LInv N E fl src lev []){A:φ->Bool}{T:σ->Bool}
  (C:UCl Ls Fs fn tos Z t (uE E fl nd) (vE E fl nd fi) A T):(∀f,f∈Fs->0<=lvl lev (fi f)->A f=true)/\∀s,s∈Ls->0<=lvl lev (nd s)->T s=true:=by
 have U:=S.uv htF hp hc
 have h0:∀k,k<E.length->0<=fl k:=fun k hk=>by have:=hp (k,true) hk;simpa[lft] using this
 have hsr:=S.srcN
 have hns:=S.nsrc
 have rng:∀(k:Nat),k∈List.range E.length->k<E.length:=fun k hk=>List.mem_range.1 hk
 have key:∀(q:Nat),(∀f,f∈Fs->lvl lev (fi f)=q->A f=true)/\∀s,s∈Ls->lvl lev (nd s)=q->T s=true:=by
  intro q
  induction q using Nat.strongRecOn with
  |ind q ih=>
   constructor
   ·intro f hf hq
    have hn:=S.fiN f hf
    obtain⟨⟨k,b⟩,h1,h2,h3,h4,h5⟩:=L.pre (fi f) (by omega) (by omega) (by omega)
    cases b
    ·simp only[tow,frm,lft,Bool.false_eq_true,if_false] at h2 h3 h4 h5
     rcases S.ty k h1 with ⟨s',hs',e⟩|⟨s',y',hs',hy',ht,e⟩|⟨y',hy',hzy,e⟩
     ·have:=S.ndN _ hs';rw[e] at h2;simp only at h2;omega
     ·rw[e] at h2 h4 h5
      simp only at h2 h4 h5
      rw[<-S.fiI _ _ hy' hf h2]
      exact C.b s' hs' ((ih (lvl lev (nd s')).toNat (by omega)).2 s' hs' (by omega)) y' hy' ht
     ·rw[e] at h2
      simp only at h2
      rw[<-S.fiI _ _ hy' hf h2]
      exact C.z y' hy' hzy
    ·simp only[tow,frm,lft,if_true] at h2 h3 h4 h5
     rcases S.ty k h1 with ⟨s',hs',e⟩|⟨s',y',hs',hy',ht,e⟩|⟨y',hy',hzy,e⟩
     ·rw[e] at h2 h4 h5
      simp only at h2 h4 h5
      have hT:=(ih (lvl lev (nd s')).toNat (by omega)).2 s' hs' (by omega)
      rw[<-S.fiI _ _ (S.inF s' hs') hf h2]
      have g1:=sm_ge (l:=List.range E.length) (f:=fun k=>if (eg E k).2.1=nd s' then fl k else 0) (fun x hx=>by split;exact h0 x (rng x hx);exact Int.le_refl _) (List.mem_range.2 h1)
      simp only[e,if_true] at g1
      have g2:=U.u1 s' hs'
      unfold uE at g2
      exact C.c s' hs' hT (by unfold uE;omega)
     ·have:=S.ndN _ hs';rw[e] at h2;simp only at h2;omega
     ·rw[e] at h2;simp only at h2;omega
   ·intro s hs hq
    have hn:=S.ndN s hs
    obtain⟨⟨k,b⟩,h1,h2,h3,h4,h5⟩:=L.pre (nd s) (by omega) (by omega) (by omega)
    cases b
    ·simp only[tow,frm,lft,Bool.false_eq_true,if_false] at h2 h3 h4 h5
     rcases S.ty k h1 with ⟨s',hs',e⟩|⟨s',y',hs',hy',ht,e⟩|⟨y',hy',hzy,e⟩
     ·rw[e] at h2 h3 h4 h5
      simp only at h2 h3 h4 h5
      have:=S.ndI _ _ hs' hs h2
      subst this
      refine C.a s' hs' ((ih (lvl lev (fi (fn s'))).toNat (by omega)).1 _ (S.inF s' hs') (by omega)) ?_
      unfold uE
      rw[sm_one (a:=k) _ List.nodup_range (List.mem_range.2 h1) (fun k' hk' hne=>by
       rw[if_neg]
       intro q
       exact hne (S.e3 k' k (List.mem_range.1 hk') h1 (by rw[e];exact q) (by rw[q];exact hn.1))),if_pos (by rw[e])]
      have:=h0 k h1
      omega
     ·have:=S.fiN _ hy';rw[e] at h2;simp only at h2;omega
     ·have:=S.fiN _ hy';rw[e] at h2;simp only at h2;omega
    ·simp only[tow,frm,lft,if_true] at h2 h3 h4 h5
     rcases S.ty k h1 with ⟨s',hs',e⟩|⟨s',y',hs',hy',ht,e⟩|⟨y',hy',hzy,e⟩
     ·have:=S.fiN _ (S.inF s' hs');rw[e] at h2;simp only at h2;omega
     ·rw[e] at h2 h4 h5
      simp only at h2 h4 h5
      have:=S.ndI _ _ hs' hs h2
      subst this
      have hA:=(ih (lvl lev (fi y')).toNat (by omega)).1 y' hy' (by omega)
      refine C.d s' hs' y' hy' hA ?_
      have g1:=sm_ge (l:=List.range E.length) (f:=fun k=>if (eg E k).1=nd s'/\(eg E k).2.1=fi y' then fl k else 0) (fun x hx=>by split;exact h0 x (rng x hx);exact Int.le_refl _) (List.mem_range.2 h1)
      simp only[e,and_self,if_true] at g1
      unfold vE;omega
     ·rw[e] at h2;simp only at h2;omega
 exact⟨fun f hf h=>(key (lvl lev (fi f)).toNat).1 f hf (by omega),fun s hs h=>(key (lvl lev (nd s)).toNat).2 s hs (by omega)⟩
end
def slt(s t:TSite):Bool:=if Op.bytesLess s.Func t.Func=true then true else if (s.Func==t.Func)=true then decide (s.Call<t.Call) else false
theorem slt_irr(s:TSite):slt s s=false:=by
 unfold slt
 rw[bl_irrefl];simp
def LK(g:TGraph)(fs:List Tx)(x:TFunc):List Tprovenderref6_link:=lks g (onF fs) x.Name 0 x.Calls
def allL(g:TGraph)(fs:List Tx):List Tprovenderref6_link:=g.Funcs.flatMap (LK g fs)
noncomputable def rb(g:TGraph)(fs:List Tx)(x:Tx):Bool:=@decide (RN g 1 (onF fs) false x) (Classical.propDecidable _)
theorem rb_iff{g:TGraph}{fs:List Tx}{x:Tx}:rb g fs x=true<->RN g 1 (onF fs) false x:=by unfold rb;simp
noncomputable def rL(g:TGraph)(fs:List Tx):List Tprovenderref6_link:=(g.Funcs.filter (fun x=>rb g fs x.Name)).flatMap (LK g fs)
def tosP(g:TGraph)(fs:List Tx)(s:TSite)(y:Tx):Prop:=∃l,l∈allL g fs/\l.site=s/\∃a,a∈l.aims/\a.to=y
theorem lks_mem(g:TGraph)(on:Tx->Bool)(nm:Tx)(l:Tprovenderref6_link):∀(cs:List TCall) (k:Int),l∈lks g on nm k cs<->∃i:Nat,∃h:i<cs.length,on (cs[i]).Feature=true/\l=Tprovenderref6_link.mk (TSite.mk nm (k+i)) (aimsG g cs[i])
 |[],k=>by simp[lks]
 |c::cs,k=>by
  have ih:=lks_mem g on nm l cs (k+1)
  rw[lks]
  constructor
  ·intro h
   by_cases hc:on c.Feature=true
   ·rw[if_pos hc] at h
    rcases List.mem_cons.1 h with h|h
    ·exact⟨0,by simp,hc,by rw[h];simp⟩
    ·obtain⟨i,hi,h1,h2⟩:=ih.1 h
     exact⟨i+1,by simpa using hi,by simpa using h1,by rw[h2];simp;omega⟩
   ·rw[if_neg hc] at h
    obtain⟨i,hi,h1,h2⟩:=ih.1 h
    exact⟨i+1,by simpa using hi,by simpa using h1,by rw[h2];simp;omega⟩
  ·rintro⟨i,hi,h1,h2⟩
   cases i with
   |zero=>
    simp only[List.getElem_cons_zero] at h1 h2
    rw[if_pos h1,h2]
    simp
   |succ i=>
    have:l∈lks g on nm (k+1) cs:=ih.2 ⟨i,by simpa using hi,by simpa using h1,by rw[h2];simp;omega⟩
    split
    ·exact List.mem_cons_of_mem _ this
    ·exact this
theorem lks_srt(g:TGraph)(on:Tx->Bool)(nm:Tx):∀(cs:List TCall) (k:Int),((lks g on nm k cs).map (·.site)).Pairwise (fun a b=>slt a b=true)
 |[],k=>by simp[lks]
 |c::cs,k=>by
  have ih:=lks_srt g on nm cs (k+1)
  rw[lks]
  split
  ·rw[List.map_cons,List.pairwise_cons]
   refine⟨fun s hs=>?_,ih⟩
   obtain⟨l,hl,rfl⟩:=List.mem_map.1 hs
   obtain⟨i,hi,_,rfl⟩:=(lks_mem g on nm l cs (k+1)).1 hl
   unfold slt
   split
   ·rfl
   ·simp;omega
  ·exact ih
theorem LK_mem{g:TGraph}{fs:List Tx}{x:TFunc}{l:Tprovenderref6_link}:l∈LK g fs x<->∃i:Nat,∃h:i<x.Calls.length,onF fs (x.Calls[i]).Feature=true/\l=Tprovenderref6_link.mk (TSite.mk x.Name (i:Int)) (aimsG g x.Calls[i]):=by
 unfold LK
 rw[lks_mem]
 simp
theorem allL_mem{g:TGraph}{fs:List Tx}{l:Tprovenderref6_link}:l∈allL g fs<->∃x,x∈g.Funcs/\∃i:Nat,∃h:i<x.Calls.length,onF fs (x.Calls[i]).Feature=true/\l=Tprovenderref6_link.mk (TSite.mk x.Name (i:Int)) (aimsG g x.Calls[i]):=by
 unfold allL
 rw[List.mem_flatMap]
 exact⟨fun⟨x,hx,h⟩=>⟨x,hx,LK_mem.1 h⟩,fun⟨x,hx,h⟩=>⟨x,hx,LK_mem.2 h⟩⟩
section
variable{g:TGraph}{fs:List Tx}
theorem fn_uniq(R:RightG g){x y:TFunc}(hx:x∈g.Funcs)(hy:y∈g.Funcs)(h:x.Name=y.Name):x=y:=by
 have a:=find_uniq (f:=fun f:TFunc=>f.Name) R.fsrt hx
 have b:=find_uniq (f:=fun f:TFunc=>f.Name) R.fsrt hy
 simp only[h] at a
 rw[a] at b
 simpa using b
theorem allL_uniq(R:RightG g){l l':Tprovenderref6_link}(hl:l∈allL g fs)(hl':l'∈allL g fs)(h:l.site=l'.site):l=l':=by
 obtain⟨x,hx,i,hi,_,rfl⟩:=allL_mem.1 hl
 obtain⟨y,hy,j,hj,_,rfl⟩:=allL_mem.1 hl'
 simp only[TSite.mk.injEq] at h
 have:=fn_uniq R hx hy h.1
 subst this
 have:i=j:=by omega
 subst this
 rfl
theorem allS_srt(R:RightG g):((allL g fs).map (·.site)).Pairwise (fun a b=>slt a b=true):=by
 unfold allL
 rw[List.map_flatMap,List.pairwise_flatMap]
 refine⟨fun x hx=>lks_srt g (onF fs) x.Name x.Calls 0,R.fsrt.imp fun {x y} hxy=>?_⟩
 intro a ha b hb
 obtain⟨l,hl,rfl⟩:=List.mem_map.1 ha
 obtain⟨l',hl',rfl⟩:=List.mem_map.1 hb
 obtain⟨i,hi,_,rfl⟩:=LK_mem.1 hl
 obtain⟨j,hj,_,rfl⟩:=LK_mem.1 hl'
 unfold slt
 simp[hxy]
theorem nodup_slt{l:List TSite}(h:l.Pairwise (fun a b=>slt a b=true)):l.Nodup:=by
 refine h.imp fun {a b} hab e=>?_
 subst e
 rw[slt_irr] at hab;simp at hab
theorem allS_fn{s:TSite}(hs:s∈(allL g fs).map (·.site)):s.Func∈g.Funcs.map (·.Name):=by
 obtain⟨l,hl,rfl⟩:=List.mem_map.1 hs
 obtain⟨x,hx,i,hi,_,rfl⟩:=allL_mem.1 hl
 exact List.mem_map.2 ⟨x,hx,rfl⟩
theorem rS_eq:(rL g fs).map (·.site)=((allL g fs).map (·.site)).filter (fun s=>rb g fs s.Func):=by
 have key:∀l:List TFunc,((l.filter (fun x=>rb g fs x.Name)).flatMap (LK g fs)).map (·.site)=((l.flatMap (LK g fs)).map (·.site)).filter (fun s=>rb g fs s.Func):=by
  intro l
  induction l with
  |nil=>rfl
  |cons x l ih=>
   rw[List.flatMap_cons,List.map_append,List.filter_append,<-ih,List.filter_cons]
   have hf:∀s,s∈(LK g fs x).map (·.site)->s.Func=x.Name:=by
    intro s hs
    obtain⟨l,hl,rfl⟩:=List.mem_map.1 hs
    obtain⟨i,hi,_,rfl⟩:=LK_mem.1 hl
    rfl
   cases hb:rb g fs x.Name
   ·have e:((LK g fs x).map (·.site)).filter (fun s=>rb g fs s.Func)=[]:=List.filter_eq_nil_iff.2 (fun s hs=>by rw[hf s hs,hb];simp)
    rw[e];simp
   ·have e:((LK g fs x).map (·.site)).filter (fun s=>rb g fs s.Func)=(LK g fs x).map (·.site):=List.filter_eq_self.2 (fun s hs=>by rw[hf s hs,hb])
    rw[e];simp
 exact key g.Funcs
theorem allL_len(R:RightG g):(allL g fs).length<=600000:=by
 have key:∀l:List TFunc,(∀x,x∈l->x∈g.Funcs)->(l.flatMap (LK g fs)).length<=200*l.length:=by
  intro l
  induction l with
  |nil=>simp
  |cons x l ih=>
   intro h
   have h1:=ih (fun y hy=>h y (List.mem_cons_of_mem _ hy))
   have h2:=lks_len g (onF fs) x.Name x.Calls 0
   have h3:=(R.f x (h x (by simp))).len
   rw[List.flatMap_cons,List.length_append,List.length_cons]
   unfold LK at h1 ⊢
   omega
 have h1:=key g.Funcs (fun _ h=>h)
 have h2:=R.fl
 unfold allL
 omega
theorem rL_len(R:RightG g):(rL g fs).length<=600000:=by
 have h1:((rL g fs).map (·.site)).length<=((allL g fs).map (·.site)).length:=by rw[rS_eq];exact List.length_filter_le _ _
 have h2:=allL_len (fs:=fs) R
 simp at h1
 omega
theorem rL_sub{l:Tprovenderref6_link}(h:l∈rL g fs):l∈allL g fs:=by
 unfold rL at h
 obtain⟨x,hx,h⟩:=List.mem_flatMap.1 h
 exact List.mem_flatMap.2 ⟨x,(List.mem_filter.1 hx).1,h⟩
theorem tosP_link(R:RightG g){l:Tprovenderref6_link}(hl:l∈allL g fs){y:Tx}:tosP g fs l.site y<->∃a,a∈l.aims/\a.to=y:=by
 constructor
 ·rintro⟨l',h1,h2,h3⟩
  rw[<-allL_uniq R h1 hl h2];exact h3
 ·intro h;exact⟨l,hl,rfl,h⟩
theorem tosP_rb{s:TSite}(hr:rb g fs s.Func=true){y:Tx}(h:tosP g fs s y):rb g fs y=true:=by
 obtain⟨l,hl,rfl,a,ha,rfl⟩:=h
 obtain⟨x,hx,i,hi,ho,rfl⟩:=allL_mem.1 hl
 exact rb_iff.2 (.aim (rb_iff.1 hr) hx (List.getElem_mem hi) ho ha (fun h=>absurd rfl h))
end
abbrev LsG(g:TGraph)(fs:List Tx):List TSite:=(allL g fs).map (·.site)
abbrev FsG(g:TGraph):List Tx:=g.Funcs.map (·.Name)
abbrev ZG(g:TGraph):Tx->Prop:=fun f=>f∈g.Entries
def Res(g:TGraph)(fs:List Tx)(t:Tx)(cut:List TSite):Prop:=
 ∃u v S T,UV (LsG g fs) (FsG g) (·.Func) (tosP g fs) (ZG g) t u v/\UCl (LsG g fs) (FsG g) (·.Func) (tosP g fs) (ZG g) t u v S T/\
  (∀A B,UCl (LsG g fs) (FsG g) (·.Func) (tosP g fs) (ZG g) t u v A B->(∀f,f∈FsG g->S f=true->A f=true)/\∀s,s∈LsG g fs->T s=true->B s=true)/\
  cut=(LsG g fs).filter (ucut (·.Func) S T)
structure SpOk(g:TGraph)(how:Int)(fs:List Tx)(sp:Treach_spread):Prop where
 fl:sp.funcs.length=g.Funcs.length
 f:∀i:Nat,∀h:i<g.Funcs.length,tru sp.funcs i<->RN g how (onF fs) false (g.Funcs[i]).Name
theorem spread_ok{g:TGraph}{how:Int}{fs:List Tx}(F:Nat)(R:RightG g)(hh:how=1\/how=2)(hF:10000<=F):∃sp,M16 F (wOf g how fs) (-1)=some (some sp)/\SpOk g how fs sp:=by
 obtain⟨sp,s1,s2,s3,s4,s5⟩:=spread_eq (wok (F:=F) (by omega) R how fs) hF
 refine⟨sp,s1,s2,fun i h=>?_⟩
 rw[s4,<-reach_iff (F:=F) (by omega) R hh fs h]
 exact⟨fun q=>q.2,fun q=>⟨h,q⟩⟩
section
variable{g:TGraph}{fs:List Tx}
theorem on_w(x:Tx):(mget (wOf g 1 fs).on x).getD false=onF fs x:=onB_eq g 1 fs x
theorem M5_L2_eq(F:Nat)(sp:Treach_spread)(n20:Int)(x:TFunc)(b:Bool)(hb:idx sp.funcs n20=some b)(k:List TSite->Option (List TSite×Bool×Int)):
  ∀(l:List TCall) (n31:Int) (acc:List TSite),acc.length+l.length<=1000000->M5_L2 F (wOf g 1 fs) sp n20 x k l n31 acc=k (acc++if b=true then (lks g (onF fs) x.Name n31 l).map (·.site) else [])
 |[],n31,acc,h=>by cases b<;>simp[M5_L2,lks]
 |c::l,n31,acc,h=>by
  simp only[List.length_cons] at h
  rw[M5_L2,jn_def,hb,Option.bind_some,lks]
  cases b with
  |false=>
   rw[if_neg (by simp)]
   refine(M5_L2_eq F sp n20 x false hb k l _ _ (by omega)).trans ?_
   simp
  |true=>
   rw[if_pos rfl,jn_def,on_w]
   by_cases ho:onF fs c.Feature=true
   ·rw[if_pos ho,if_pos (by simp;omega)]
    refine(M5_L2_eq F sp n20 x true hb k l _ _ (by simp;omega)).trans ?_
    rw[if_pos ho]
    simp
   ·rw[if_neg ho]
    refine(M5_L2_eq F sp n20 x true hb k l _ _ (by omega)).trans ?_
    rw[if_neg ho]
theorem M5_L1_eq(F:Nat)(R:RightG g){sp:Treach_spread}(P:SpOk g 1 fs sp)(k:List TSite->Option (List TSite×Bool×Int)):
  ∀(l:List TFunc) (i:Nat) (acc:List TSite),g.Funcs.drop i=l->acc.length+200*l.length<=1000000->M5_L1 F (wOf g 1 fs) sp k l i acc=k (acc++((l.filter (fun x=>rb g fs x.Name)).flatMap (LK g fs)).map (·.site))
 |[],i,acc,hd,h=>by simp[M5_L1]
 |x::l,i,acc,hd,h=>by
  simp only[List.length_cons] at h
  obtain⟨hi,hx,hd'⟩:=drop_at hd
  have hxm:x∈g.Funcs:=by rw[<-hx];exact List.getElem_mem hi
  have hc:=(R.f x hxm).len
  have hb:idx sp.funcs (i:Int)=some (rb g fs x.Name):=by
   have hlt:i<sp.funcs.length:=by rw[P.fl];exact hi
   rw[idx_nat hlt]
   have:=P.f i hi
   rw[hx] at this
   unfold tru at this
   rw[List.getElem?_eq_getElem hlt,Option.some.injEq] at this
   cases h1:rb g fs x.Name
   ·cases h2:sp.funcs[i]
    ·rfl
    ·have:=rb_iff.2 (this.1 h2);rw[h1] at this;simp at this
   ·rw[this.2 (rb_iff.1 h1)]
  rw[M5_L1,jn_def,jn_def,M5_L2_eq F sp i x _ hb _ _ _ _ (by omega)]
  have hcast:((i:Int)+1)=((i+1:Nat):Int):=by omega
  have hl:=lks_len g (onF fs) x.Name x.Calls 0
  rw[hcast]
  refine(M5_L1_eq F R P k l (i+1) _ hd' (by cases rb g fs x.Name<;>simp<;>omega)).trans ?_
  rw[List.filter_cons]
  cases rb g fs x.Name
  ·simp
  ·simp[LK]
def fiG(g:TGraph)(fs:List Tx)(x:Tx):Nat:=(fI (wOf g 1 fs) x).toNat
theorem fi_at(R:RightG g){x:Tx}(hx:x∈FsG g):∃i:Nat,∃h:i<g.Funcs.length,(g.Funcs[i]).Name=x/\fI (wOf g 1 fs) x=i/\fiG g fs x=i:=by
 obtain⟨i,h,e⟩:=fs_at (g:=g) (x:=x) (in_names.2 (by obtain⟨f,h1,h2⟩:=List.mem_map.1 hx;exact⟨f,h1,h2⟩))
 have:=fI_at R 1 fs h
 rw[e] at this
 exact⟨i,h,e,this,by unfold fiG;rw[this];rfl⟩
theorem fi_inj(R:RightG g){x y:Tx}(hx:x∈FsG g)(hy:y∈FsG g)(h:fiG g fs x=fiG g fs y):x=y:=by
 obtain⟨i,hi,e1,_,e2⟩:=fi_at (fs:=fs) R hx
 obtain⟨j,hj,e3,_,e4⟩:=fi_at (fs:=fs) R hy
 have:i=j:=by omega
 subst this
 rw[<-e1,e3]
noncomputable abbrev SG(g:TGraph)(fs:List Tx):List TSite:=(rL g fs).map (·.site)
noncomputable def ndG(g:TGraph)(fs:List Tx)(s:TSite):Nat:=g.Funcs.length+(SG g fs).idxOf s
structure EInv(g:TGraph)(fs:List Tx)(done:List Tprovenderref6_link)(E:List Eg):Prop where
 mem:∀e,e∈E<->∃lk,lk∈done/\(e=(fiG g fs lk.site.Func,ndG g fs lk.site,1)\/∃y,y∈FsG g/\tosP g fs lk.site y/\e=(ndG g fs lk.site,fiG g fs y,BIG))
 pw:E.Pairwise (fun e e'=>g.Funcs.length<=e.2.1->e.2.1≠e'.2.1)
 low:∀e,e∈E->e.2.1<g.Funcs.length+done.length
 len:E.length<=501*done.length
theorem M5_L4_ok(F:Nat)(d N:Nat)(hd:d<=1000000)(hn:g.Funcs.length<=3000)(hN:g.Funcs.length+d<N)(k:Gr->Option (List TSite×Bool×Int)):
  ∀(tl:List Int) (E:List Eg) (ps:Dt->Nat) (G:Gr),NetI N E ps (fun _=>0) G->E.length+tl.length<=1000000000->(∀v,v∈tl->∃i:Nat,i<g.Funcs.length/\v=i)->
   ∃ps' G',M5_L4 F g d k tl G=k G'/\NetI N (E++tl.map (fun v=>(g.Funcs.length+d,v.toNat,BIG))) ps' (fun _=>0) G'
 |[],E,ps,G,I,hl,ht=>⟨ps,G,rfl,by simpa using I⟩
 |v::tl,E,ps,G,I,hl,ht=>by
  simp only[List.length_cons] at hl
  obtain⟨i,hi,rfl⟩:=ht v (by simp)
  obtain⟨ps',G',e,I'⟩:=add_ok F I (by omega) hN (show i<N by omega) (by omega) (c:=BIG) (by decide) (by decide) ([]:List Int) ([]:List Int)
  obtain⟨ps2,G2,e2,I2⟩:=M5_L4_ok F d N hd hn hN k tl _ ps' G' I' (by simp;omega) (fun v hv=>ht v (List.mem_cons_of_mem _ hv))
  refine⟨ps2,G2,?_,by simpa using I2⟩
  rw[M5_L4]
  have hw:w64 (((g.Funcs.length:Nat):Int)+(d:Int))=((g.Funcs.length+d:Nat):Int):=by rw[w64_id (by omega) (by omega)];omega
  rw[hw,e,Option.bind_some]
  exact e2
theorem M5_L3_ok(F:Nat)(hF:1000<=F)(R:RightG g)(N:Nat)(hN:N=g.Funcs.length+(rL g fs).length+1)(k:Gr->Option (List TSite×Bool×Int)):
  ∀(l done:List Tprovenderref6_link) (E:List Eg) (ps:Dt->Nat) (G:Gr),rL g fs=done++l->NetI N E ps (fun _=>0) G->EInv g fs done E->
   ∃E' ps' G',M5_L3 F g (wOf g 1 fs) k (l.map (·.site)) (done.length:Int) G=k G'/\NetI N E' ps' (fun _=>0) G'/\EInv g fs (rL g fs) E'
 |[],done,E,ps,G,hr,I,J=>⟨E,ps,G,rfl,I,by rw[hr,List.append_nil];exact J⟩
 |lk::l,done,E,ps,G,hr,I,J=>by
  have hlen:=rL_len (fs:=fs) R
  have hfl:=R.fl
  have hdl:done.length<(rL g fs).length:=by rw[hr];simp
  have hmem:lk∈rL g fs:=by rw[hr];simp
  obtain⟨x,hx,i,hi,ho,elk⟩:=allL_mem.1 (rL_sub hmem)
  have hsn:lk.site.Func∈FsG g:=by rw[elk];exact List.mem_map.2 ⟨x,hx,rfl⟩
  obtain⟨j,hj,ej,efI,efi⟩:=fi_at (fs:=fs) R hsn
  have exj:g.Funcs[j]=x:=fn_uniq R (List.getElem_mem hj) hx (by rw[ej,elk])
  have hnd:(SG g fs).Nodup:=by unfold SG;rw[rS_eq];exact(nodup_slt (allS_srt R)).filter _
  have eS:SG g fs=done.map (·.site)++lk.site::l.map (·.site):=by unfold SG;rw[hr];simp
  have hid:(SG g fs).idxOf lk.site=done.length:=by
   rw[eS] at hnd ⊢
   rw[List.idxOf_append,if_neg (fun q=>by
    have:=(List.nodup_append.1 hnd).2.2 _ q lk.site (by simp)
    exact this rfl)]
   simp
  have end_:ndG g fs lk.site=g.Funcs.length+done.length:=by unfold ndG;rw[hid]
  have hw:w64 (((g.Funcs.length:Nat):Int)+(done.length:Int))=((g.Funcs.length+done.length:Nat):Int):=by rw[w64_id (by omega) (by omega)];omega
  have hEl:=J.len
  obtain⟨ps1,G1,e1,I1⟩:=add_ok F I (by omega) (show j<N by omega) (show g.Funcs.length+done.length<N by omega) (by omega) (c:=1) (by decide) (by decide) ([]:List Int) ([]:List Int)
  obtain⟨tl,e2,T⟩:=M18_eq F hF R 1 fs hx (List.getElem_mem hi)
  have hTl:=T.len
  obtain⟨ps2,G2,e3,I2⟩:=M5_L4_ok (g:=g) F done.length N (by omega) hfl (by omega) (fun l68=>jn (fun(l56:Gr)=>M5_L3 F g (wOf g 1 fs) k (l.map (·.site)) ((done.length:Int)+1) l56) (fun k55=>k55 l68)) tl _ ps1 G1 I1 (by simp;omega) T.nat
  have J2:EInv g fs (done++[lk]) ((E++[(j,g.Funcs.length+done.length,(1:Int))])++tl.map (fun v=>(g.Funcs.length+done.length,v.toNat,BIG))):=by
   have htl:∀e,e∈tl.map (fun v=>((g.Funcs.length+done.length,v.toNat,BIG):Eg))<->∃y,y∈FsG g/\tosP g fs lk.site y/\e=(ndG g fs lk.site,fiG g fs y,BIG):=by
    intro e
    rw[List.mem_map]
    constructor
    ·rintro⟨v,hv,rfl⟩
     obtain⟨q,hq,rfl⟩:=T.nat v hv
     have hqm:(g.Funcs[q]).Name∈FsG g:=List.mem_map.2 ⟨_,List.getElem_mem hq,rfl⟩
     refine⟨(g.Funcs[q]).Name,hqm,(tosP_link R (rL_sub hmem)).2 ?_,?_⟩
     ·rw[elk];exact(T.mem q hq).1 hv
     ·rw[end_]
      unfold fiG
      rw[fI_at R 1 fs hq]
    ·rintro⟨y,hy,hty,rfl⟩
     obtain⟨q,hq,eq1,eq2,eq3⟩:=fi_at (fs:=fs) R hy
     have:=(tosP_link R (rL_sub hmem)).1 hty
     rw[elk] at this
     refine⟨(q:Int),(T.mem q hq).2 (by rw[eq1];exact this),?_⟩
     rw[end_,eq3];rfl
   have hlow:∀e,e∈tl.map (fun v=>((g.Funcs.length+done.length,v.toNat,BIG):Eg))->e.2.1<g.Funcs.length:=by
    intro e he
    obtain⟨v,hv,rfl⟩:=List.mem_map.1 he
    obtain⟨q,hq,rfl⟩:=T.nat v hv
    exact hq
   refine⟨fun e=>?_,?_,fun e he=>?_,by simp;omega⟩
   ·rw[List.mem_append,List.mem_append,J.mem,htl,List.mem_singleton]
    constructor
    ·rintro((⟨lk',h1,h2⟩|h)|h)
     ·exact⟨lk',by simp[h1],h2⟩
     ·exact⟨lk,by simp,.inl (by rw[h,efi,end_])⟩
     ·exact⟨lk,by simp,.inr h⟩
    ·rintro⟨lk',h1,h2⟩
     rcases List.mem_append.1 h1 with h1|h1
     ·exact .inl (.inl ⟨lk',h1,h2⟩)
     ·simp only[List.mem_singleton] at h1
      subst h1
      rcases h2 with h2|h2
      ·exact .inl (.inr (by rw[h2,efi,end_]))
      ·exact .inr h2
   ·rw[List.pairwise_append]
    refine⟨?_,?_,fun a ha b hb hn=>?_⟩
    ·rw[List.pairwise_append]
     refine⟨J.pw,by simp,fun a ha b hb hn=>?_⟩
     simp only[List.mem_singleton] at hb
     subst hb
     have:=J.low a ha
     simp only;omega
    ·refine List.Pairwise.imp_of_mem (R:=fun _ _=>True) (fun {a b} ha hb _ hn=>?_) (List.pairwise_of_forall (fun _ _=>trivial))
     have:=hlow a ha;omega
    ·have:=hlow b hb;omega
   ·have hj2:(done++[lk]).length=done.length+1:=by simp
    rw[hj2]
    rcases List.mem_append.1 he with he|he
    ·rcases List.mem_append.1 he with he|he
     ·have:=J.low e he;omega
     ·simp only[List.mem_singleton] at he
      subst he;simp only;omega
    ·have:=hlow e he;omega
  obtain⟨E3,ps3,G3,e4,I3,J3⟩:=M5_L3_ok F hF R N hN k l (done++[lk]) _ ps2 G2 (by rw[hr];simp) I2 J2
  refine⟨E3,ps3,G3,?_,I3,J3⟩
  have hfi:(mget (wOf g 1 fs).funcs lk.site.Func).getD 0=(j:Int):=efI
  have hsc:lk.site.Call=(i:Int):=by rw[elk]
  rw[List.map_cons,M5_L3,jn_def,hfi,hw,e1,Option.bind_some,idx_nat hj,Option.bind_some,exj,hsc,idx_nat hi,Option.bind_some,e2,Option.bind_some,jn_def]
  have hcast:(((done++[lk]).length:Nat):Int)=(done.length:Int)+1:=by simp
  rw[hcast] at e4
  exact e3.trans e4
end
end Go.Proofs.YtcihpgamojpcnaaGreat
