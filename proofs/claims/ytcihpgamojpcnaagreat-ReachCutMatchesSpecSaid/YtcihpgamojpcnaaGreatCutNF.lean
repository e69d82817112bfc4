/- Part of the proof: NA, NB, NC, ND, NE, NF. -/
import Derived.Test.YtcihpgamojpcnaaGreatCutUV
set_option linter.unusedSectionVars false
set_option linter.unusedSimpArgs false
set_option linter.unusedVariables false
namespace Go.Proofs.YtcihpgamojpcnaaGreat
open Go Go.Pv
abbrev Gr:=List (List q6a)
abbrev Eg:=Nat×Nat×Int
abbrev Dt:=Nat×Bool
def at2(G:Gr)(i p:Nat):Option q6a:=(G[i]?).bind (·[p]?)
def eg(E:List Eg)(k:Nat):Eg:=(E[k]?).getD (0,0,0)
def frm(E:List Eg)(d:Dt):Nat:=if d.2=true then (eg E d.1).2.1 else (eg E d.1).1
def tow(E:List Eg)(d:Dt):Nat:=if d.2=true then (eg E d.1).1 else (eg E d.1).2.1
def lft(E:List Eg)(fl:Nat->Int)(d:Dt):Int:=if d.2=true then fl d.1 else (eg E d.1).2.2 - fl d.1
def rev(d:Dt):Dt:=(d.1,!d.2)
def w1j(fl:Nat->Int)(d:Dt):Nat->Int:=fun k=>if k=d.1 then (if d.2=true then fl k - 1 else fl k+1) else fl k
def ex(E:List Eg)(fl:Nat->Int)(n:Nat):Int:=sm (List.range E.length) (fun k=>(if (eg E k).2.1=n then fl k else 0) - (if (eg E k).1=n then fl k else 0))
structure z1l(N:Nat)(E:List Eg)(ps:Dt->Nat)(fl:Nat->Int)(G:Gr):Prop where
 len:G.length=N
 ne:∀d:Dt,d.1<E.length->frm E d≠tow E d
 lt:∀d:Dt,d.1<E.length->frm E d<N
 at_:∀d:Dt,d.1<E.length->at2 G (frm E d) (ps d)=some (q6a.mk (tow E d) (lft E fl d) (ps (rev d)))
 all:∀i p a,at2 G i p=some a->∃d:Dt,d.1<E.length/\frm E d=i/\ps d=p
 inj:∀d d':Dt,d.1<E.length->d'.1<E.length->frm E d=frm E d'->ps d=ps d'->d=d'
 pos:∀d:Dt,d.1<E.length->0<=lft E fl d
 cap:∀k,k<E.length->(eg E k).2.2<=1099511627776
 rl:∀(i:Nat) (row:List q6a),G[i]? = some row->row.length<=E.length
theorem v6z(d:Dt):rev (rev d)=d:=by unfold rev;simp
theorem z9s(E:List Eg)(d:Dt):frm E (rev d)=tow E d:=by
 obtain⟨k,b⟩:=d;cases b<;>simp[frm,tow,rev]
theorem v0y(E:List Eg)(d:Dt):tow E (rev d)=frm E d:=by
 obtain⟨k,b⟩:=d;cases b<;>simp[frm,tow,rev]
theorem y9a(E:List Eg)(fl:Nat->Int)(d:Dt):lft E fl d+lft E fl (rev d)=(eg E d.1).2.2:=by
 obtain⟨k,b⟩:=d;cases b<;>simp[lft,rev]<;>omega
theorem j0t(E:List Eg)(fl:Nat->Int)(d d':Dt):lft E (w1j fl d) d'=if d'=d then lft E fl d - 1 else if d'=rev d then lft E fl d'+1 else lft E fl d':=by
 obtain⟨k,b⟩:=d;obtain⟨k',b'⟩:=d';by_cases h:k'=k
 ·subst h;cases b<;>cases b'<;>simp[lft,rev,w1j]<;>omega
 ·simp[lft,rev,w1j,h]
theorem y9b(E:List Eg)(fl:Nat->Int)(d:Dt)(hd:d.1<E.length)(n:Nat):ex E (w1j fl d) n=ex E fl n+(if tow E d=n then 1 else 0) - (if frm E d=n then 1 else 0):=by
 have h:ex E (w1j fl d) n - ex E fl n=(if tow E d=n then 1 else 0) - (if frm E d=n then 1 else 0):=by
  unfold ex;rw[<-z3u,z9b (a:=d.1) _ cd9 (da8.2 hd) (fun k _ hk=>by unfold w1j;rw[if_neg hk];omega)];obtain⟨k,b⟩:=d;cases b
  ·simp only[w1j,tow,frm,if_true];simp only[cy8,if_false];split<;>split<;>omega
  ·simp only[w1j,tow,frm,if_true];split<;>split<;>omega
 omega
theorem z1l.towlt{N:Nat}{E:List Eg}{ps:Dt->Nat}{fl:Nat->Int}{G:Gr}(I:z1l N E ps fl G){d:Dt}(hd:d.1<E.length):tow E d<N:=by
 rw[<-z9s];exact I.lt (rev d) hd
theorem z1l.le{N:Nat}{E:List Eg}{ps:Dt->Nat}{fl:Nat->Int}{G:Gr}(I:z1l N E ps fl G){d:Dt}(hd:d.1<E.length):lft E fl d<=1099511627776:=by
 have h1:=y9a E fl d;have h2:=I.pos (rev d) hd;have h3:=I.cap d.1 hd;omega
theorem z1l.ex_le{N:Nat}{E:List Eg}{ps:Dt->Nat}{fl:Nat->Int}{G:Gr}(I:z1l N E ps fl G)(n:Nat):ex E fl n<=1099511627776*(E.length:Int):=by
 have h:ex E fl n<=sm (List.range E.length) (fun _=>1099511627776):=by
  unfold ex;refine j6r fun k hk=>?_;have hk:=da8.1 hk;have h1:0<=fl k:=by have:=I.pos (k,true) hk;simpa[lft] using this
  have h2:=I.le (d:=(k,true)) hk;have h2:fl k<=1099511627776:=by simpa[lft] using h2
  split<;>split<;>omega
 have e:∀(l:List Nat),sm l (fun _=>(1099511627776:Int))=1099511627776*(l.length:Int):=by
  intro l
  induction l with
  |nil=>rfl
  |cons x l ih=>rw[q5o,ih,cj8];omega
 rw[e,List.length_range] at h;exact h
theorem j9f{G:Gr}{i p:Nat}{a:q6a}(h:at2 G i p=some a):∃row:List q6a,G[i]? = some row/\row[p]? = some a:=by
 unfold at2 at h;cases hr:G[i]? with
 |none=>rw[hr] at h;simp at h
 |some row=>rw[hr] at h;exact⟨row,rfl,h⟩
theorem w7f{G:Gr}{i p:Nat}{row:List q6a}(a:q6a)(hr:G[i]? = some row)(hp:p<row.length)(i' p':Nat):
  at2 (G.set i (row.set p a)) i' p'=if i'=i/\p'=p then some a else at2 G i' p':=by
 have hi:=(bi8.1 hr).1;unfold at2;rw[bt8];by_cases e:i=i'
 ·subst e;rw[if_pos rfl,if_pos hi,hr,cl8,cl8,bt8];by_cases e:p=p'
  ·subst e;simp[hp]
  ·rw[if_neg e,if_neg (fun q=>e q.2.symm)]
 ·rw[if_neg e,if_neg (fun q=>e q.1.symm)]
theorem z5c{α:Type}{l:List α}{i:Nat}{x:α}(h:l[i]? = some x):idx l (i:Int)=some x:=by
 obtain⟨hi,e⟩:=bi8.1 h;rw[q9l hi,e]
def y2m(G:Gr)(a1 x74:Int)(nx:List Int):Option (Bool×Gr×List Int):=
 (idx G a1).bind fun x87=>(idx x87 x74).bind fun y89=>(idx (G.set a1.toNat (x87.set x74.toNat (q6a.mk y89.to (w64 (y89.left - 1)) y89.back))) a1).bind fun x91=>(idx x91 x74).bind fun y93=>(idx (G.set a1.toNat (x87.set x74.toNat (q6a.mk y89.to (w64 (y89.left - 1)) y89.back))) y93.to).bind fun x95=>(idx x95 y93.back).bind fun y97=>some (true,((G.set a1.toNat (x87.set x74.toNat (q6a.mk y89.to (w64 (y89.left - 1)) y89.back))).set y93.to.toNat (x95.set y93.back.toNat (q6a.mk y97.to (w64 (y97.left+1)) y97.back))),nx)
theorem w8z{N:Nat}{E:List Eg}{ps:Dt->Nat}{fl:Nat->Int}{G:Gr}(I:z1l N E ps fl G){d:Dt}(hd:d.1<E.length)(h:0<lft E fl d)(nx:List Int):
    ∃G',y2m G (frm E d) (ps d) nx=some (true,G',nx)/\z1l N E ps (w1j fl d) G'/\∀(i:Nat) (row:List q6a),G[i]? = some row->∃row':List q6a,G'[i]? = some row'/\row'.length=row.length:=by
  obtain⟨row,hr,hp⟩:=j9f (I.at_ d hd);obtain⟨row',hr',hp'⟩:=j9f (I.at_ (rev d) hd);rw[z9s] at hr';rw[v0y,v6z] at hp';have hne:=I.ne d hd;have l1:=(bi8.1 hp).1;have l2:=(bi8.1 hp').1;have hi:=(bi8.1 hr).1;have hi':=(bi8.1 hr').1;have b1:=I.le hd;have b2:=I.le (d:=rev d) hd;have b3:=I.pos (rev d) hd;have w1:w64 (lft E fl d - 1)=lft E fl d - 1:=q9r (by omega) (by omega);have w2:w64 (lft E fl (rev d)+1)=lft E fl (rev d)+1:=q9r (by omega) (by omega);have q1:∀a,(G.set (frm E d) (row.set (ps d) a))[frm E d]? = some (row.set (ps d) a):=fun a=>by rw[bu8 hi]
  have q2:∀a,(row.set (ps d) a)[ps d]? = some a:=fun a=>by rw[bu8 l1]
  have q3:∀a,(G.set (frm E d) (row.set (ps d) a))[tow E d]? = some row':=fun a=>by rw[cd8 hne];exact hr'
  refine⟨(G.set (frm E d) (row.set (ps d) (q6a.mk (tow E d) (lft E fl d - 1) (ps (rev d))))).set (tow E d) (row'.set (ps (rev d)) (q6a.mk (frm E d) (lft E fl (rev d)+1) (ps d))),?_,?_⟩
  · unfold y2m
    rw[z5c hr,cl8,z5c hp,cl8];simp only[bq8];rw[w1,z5c (q1 _),cl8,z5c (q2 _),cl8];simp only[bq8];rw[z5c (q3 _),cl8,z5c hp',cl8];simp only;rw[w2]
  · have key:∀i p,at2 ((G.set (frm E d) (row.set (ps d) (q6a.mk (tow E d) (lft E fl d - 1) (ps (rev d))))).set (tow E d) (row'.set (ps (rev d)) (q6a.mk (frm E d) (lft E fl (rev d)+1) (ps d)))) i p =
        if i=tow E d/\p=ps (rev d) then some (q6a.mk (frm E d) (lft E fl (rev d)+1) (ps d)) else if i=frm E d/\p=ps d then some (q6a.mk (tow E d) (lft E fl d - 1) (ps (rev d))) else at2 G i p:=fun i p=>by
      rw[w7f _ (q3 _) l2,w7f _ hr l1]
    have rows:∀(i:Nat) (row0:List q6a),G[i]? = some row0->∃row1:List q6a,((G.set (frm E d) (row.set (ps d) (q6a.mk (tow E d) (lft E fl d - 1) (ps (rev d))))).set (tow E d) (row'.set (ps (rev d)) (q6a.mk (frm E d) (lft E fl (rev d)+1) (ps d))))[i]? = some row1/\row1.length=row0.length:=by
      intro i row0 h0;rw[bt8];by_cases e:tow E d=i
      · subst e
        rw[if_pos rfl,if_pos (by simpa using hi')];refine⟨_,rfl,?_⟩;rw[h0] at hr';cases hr';simp
      · rw[if_neg e,bt8]
        by_cases e:frm E d=i
        · subst e
          rw[if_pos rfl,if_pos hi];refine⟨_,rfl,?_⟩;rw[h0] at hr;cases hr;simp
        · rw[if_neg e];exact⟨_,h0,rfl⟩
    refine⟨⟨by simpa using I.len,I.ne,I.lt,fun d' hd'=>?_,fun i p a ha=>?_,I.inj,fun d' hd'=>?_,I.cap,fun i r hr0=>?_⟩,rows⟩
    · rw[key,j0t]
      by_cases e:d'=d
      · subst e
        rw[if_neg (fun q=>hne q.1),if_pos ⟨rfl,rfl⟩,if_pos rfl]
      · rw[if_neg e]
        by_cases e':d'=rev d
        · subst e'
          rw[if_pos ⟨z9s E d,rfl⟩,if_pos rfl,v6z,v0y]
        · rw[if_neg e',if_neg (fun q=>e' (I.inj _ _ hd' hd (by rw[q.1,z9s]) q.2)),if_neg (fun q=>e (I.inj _ _ hd' hd q.1 q.2))]
          exact I.at_ d' hd'
    · rw[key] at ha
      split at ha
      · rename_i q;exact⟨rev d,hd,by rw[z9s,q.1],q.2.symm⟩
      · split at ha
        · rename_i q;exact⟨d,hd,q.1.symm,q.2.symm⟩
        · exact I.all i p a ha
    · rw[j0t]
      have:=I.pos d' hd';split
      · omega
      · split<;>omega
    · rw[bt8] at hr0
      split at hr0
      · split at hr0
        · simp only[bc8] at hr0
          subst hr0;have:=I.rl _ _ hr'
          simpa using this
        · simp at hr0
      · rw[bt8] at hr0
        split at hr0
        · simp only[bc8] at hr0
          subst hr0;have:=I.rl _ _ hr
          simpa using this
        · exact I.rl _ _ hr0
def lvl(lev:List Int)(n:Nat):Int:=lev.getD n (-1)
theorem z7l{lev:List Int}{n:Nat}(h:n<lev.length):idx lev (n:Int)=some (lvl lev n):=by
 rw[q9l h];unfold lvl;rw[db8,be8 h];rfl
def adm(E:List Eg)(fl:Nat->Int)(lev:List Int)(d:Dt):Prop:=0<lft E fl d/\lvl lev (tow E d)=lvl lev (frm E d)+1
inductive Pth(E:List Eg)(fl:Nat->Int)(lev:List Int)(t:Nat):Nat->Prop
 |here:Pth E fl lev t t
 |step {d:Dt} (hd:d.1<E.length) (ha:adm E fl lev d) (h:Pth E fl lev t (tow E d)):Pth E fl lev t (frm E d)
def w8t(G:Gr)(nx:List Int):Prop:=∀(i:Nat) (row:List q6a),G[i]? = some row->∃q:Nat,nx[i]? = some (q:Int)/\q<=row.length
def y7d(E:List Eg)(ps:Dt->Nat)(fl:Nat->Int)(lev:List Int)(t:Nat)(nx:List Int):Prop:=∀d:Dt,d.1<E.length->∀q:Nat,nx[frm E d]? = some (q:Int)->ps d<q->adm E fl lev d->¬Pth E fl lev t (tow E d)
def v3m(N:Nat)(E:List Eg)(ps:Dt->Nat)(lev:List Int)(t i:Nat)(fl:Nat->Int)(G:Gr)(nx:List Int)(r:Option (Bool×Gr×List Int)):Prop:=
 ∃b G' nx',r=some (b,G',nx')/\w8t G' nx'/\(∀n,n<N->lvl lev n<lvl lev i->nx'[n]? = nx[n]?)/\
  (b=false->G'=G/\(y7d E ps fl lev t nx->y7d E ps fl lev t nx'/\¬Pth E fl lev t i))/\
  (b=true->∃fl',z1l N E ps fl' G'/\(∀n,ex E fl' n=ex E fl n+(if t=n then 1 else 0) - (if i=n then 1 else 0))/\∀d:Dt,d.1<E.length->lvl lev (frm E d)<lvl lev i->lft E fl' d=lft E fl d)
section
variable{N:Nat}{E:List Eg}{ps:Dt->Nat}{lev:List Int}{t:Nat}
theorem v3m.mono{i:Nat}{fl:Nat->Int}{G:Gr}{nx nx2:List Int}{r:Option (Bool×Gr×List Int)}(h:v3m N E ps lev t i fl G nx2 r)(h1:∀n,n<N->lvl lev n<lvl lev i->nx2[n]? = nx[n]?)(h2:y7d E ps fl lev t nx->y7d E ps fl lev t nx2):v3m N E ps lev t i fl G nx r:=by
 obtain⟨b,G',nx',e,a1,a2,a3,a4⟩:=h;exact⟨b,G',nx',e,a1,fun n hn hl=>(a2 n hn hl).trans (h1 n hn hl),fun hb=>⟨(a3 hb).1,fun hd=>(a3 hb).2 (h2 hd)⟩,a4⟩
theorem j6x(hE:E.length<=1000000000)(hN:N<=1000000000)(ht:t<N)(hlev:lev.length=N)(hb:∀n,n<N->lvl lev n<(N:Int)){F i:Nat}(hi:i<N)(hit:i≠t)(h0:0<=lvl lev i)
  (IH:∀(j:Nat) (G:Gr) (nx:List Int) (fl:Nat->Int),z1l N E ps fl G->w8t G nx->j<N->lvl lev j=lvl lev i+1->v3m N E ps lev t j fl G nx (M51 F j t G lev nx)) {G:Gr} {fl:Nat->Int} (I:z1l N E ps fl G) {row:List q6a} (hr:G[i]? = some row):
  ∀(n:Nat) (nx:List Int) (q:Nat),w8t G nx->nx[i]? = some (q:Int)->row.length<n+q->v3m N E ps lev t i fl G nx (z4x (M51 F) F i t lev (fun l58 l59=>some (false,l58,l59)) n G nx)
 |0,nx,q,hn,hq,hm=>by
  obtain⟨q',h1,h2⟩:=hn i row hr;rw[hq] at h1;simp only[bc8] at h1;omega
 |n+1,nx,q,hn,hq,hm=>by
  have hrl:=I.rl i row hr;rw[z4x,z5c hq,cl8,z5c hr,cl8];by_cases hlt:q<row.length
  ·rw[if_pos (by simpa using hlt)];have ha2:at2 G i q=some row[q]:=by unfold at2;rw[hr,cl8,be8 hlt]
   obtain⟨d,hd,hf,hp⟩:=I.all _ _ _ ha2;subst hf;subst hp;have ea:=I.at_ d hd;rw[ha2] at ea;simp only[bc8] at ea;have hrow:row[ps d]? = some (q6a.mk (tow E d) (lft E fl d) (ps (rev d))):=by rw[be8 hlt,ea]
   have hset:∀nx':List Int,w8t G nx'->nx'[frm E d]? = some (ps d:Int)->w8t G (nx'.set (frm E d) ((ps d+1:Nat):Int)):=by
    intro nx' hn' hq' i' row' hr';rw[bt8];by_cases e:frm E d=i'
    ·subst e;rw[if_pos rfl,if_pos (bi8.1 hq').1];rw[hr] at hr';cases hr';exact⟨_,rfl,hlt⟩
    ·rw[if_neg e];exact hn' i' row' hr'
   have hdead:∀nx':List Int,nx'[frm E d]? = some (ps d:Int)->y7d E ps fl lev t nx'->(adm E fl lev d->¬Pth E fl lev t (tow E d))->y7d E ps fl lev t (nx'.set (frm E d) ((ps d+1:Nat):Int)):=by
    intro nx' hq' hD hno d' hd' q' h1 h2 h3;rw[bt8] at h1;by_cases e:frm E d=frm E d'
    ·rw[if_pos e,if_pos (bi8.1 hq').1] at h1;simp only[bc8] at h1;by_cases e2:ps d'=ps d
     ·have:=I.inj d' d hd' hd e.symm e2;subst this;exact hno h3
     ·exact hD d' hd' (ps d) (by rw[<-e];exact hq') (by omega) h3
    ·rw[if_neg e] at h1;exact hD d' hd' q' h1 h2 h3
   have hset':∀nx':List Int,∀n,n<N->lvl lev n<lvl lev (frm E d)->(nx'.set (frm E d) ((ps d+1:Nat):Int))[n]? = nx'[n]?:=by
    intro nx' n _ hl;rw[cd8];intro e;subst e;omega
   have hw:∀q:Nat,q<=1000000000->w64 ((q:Int)+1)=((q+1:Nat):Int):=fun q hq=>by rw[q9r (by omega) (by omega)];omega
   have ih:=j6x hE hN ht hlev hb hi hit h0 IH I hr n;simp only[q9e];rw[cl8,cl8,z5c hrow,cl8];simp only
   have skip:(adm E fl lev d->False)->v3m N E ps lev t (frm E d) fl G nx ((idx nx (frm E d:Int)).bind fun x99=>(idx nx (frm E d:Int)).bind fun x101=>z4x (M51 F) F (frm E d) t lev (fun l58 l59=>some (false,l58,l59)) n G (nx.set (frm E d:Int).toNat (w64 (x99+1)))):=by
    intro hno;rw[z5c hq,cl8,cl8,bq8,hw _ (by omega)];refine(ih _ (ps d+1) (hset nx hn hq) ?_ (by omega)).mono (hset' nx) (fun hD=>hdead nx hq hD (fun h=>(hno h).elim));rw[bu8 (bi8.1 hq).1]
   by_cases hl:0<lft E fl d
   ·rw[if_pos (by simpa using hl)];have htw:=I.towlt hd;rw[z7l (by rw[hlev];exact htw),cl8,z7l (by rw[hlev];exact hi),cl8];have hbi:=hb _ hi;rw[q9r (by omega) (by omega)];by_cases hv:lvl lev (tow E d)=lvl lev (frm E d)+1
    ·rw[if_pos (by simpa using hv)];obtain⟨b,G',nx',e,p1,p2,p3,p4⟩:=IH (tow E d) G nx fl I hn htw hv;rw[e,cl8];cases b with
     |true=>
      simp only[if_true];obtain⟨fl',I',hex,hsame⟩:=p4 rfl;have hl':0<lft E fl' d:=by rw[hsame d hd (by omega)];exact hl
      obtain⟨G'',e2,I'',hrows⟩:=w8z I' hd hl' nx';refine⟨true,G'',nx',e2,?_,fun n hn hl=>p2 n hn (by omega),fun h=>by simp at h,fun _=>⟨_,I'',fun n=>?_,fun d' hd' hlow=>?_⟩⟩
      ·intro i' row' hr';have hi':i'<G'.length:=by rw[I'.len,<-I''.len];exact(bi8.1 hr').1
       obtain⟨row2,h1,h2⟩:=hrows i' _ (be8 hi');rw[hr'] at h1;cases h1;rw[h2];exact p1 i' _ (be8 hi')
      ·rw[y9b E fl' d hd,hex];omega
      ·rw[j0t,if_neg (fun e=>by subst e;omega),if_neg (fun e=>by subst e;rw[z9s] at hlow;omega)];exact hsame d' hd' (by omega)
     |false=>
      simp only[cy8,if_false];obtain⟨eG,hD⟩:=p3 rfl;subst eG;have hq':nx'[frm E d]? = some (ps d:Int):=by rw[p2 _ hi (by omega)];exact hq
      rw[z5c hq',cl8,cl8,bq8,hw _ (by omega)];refine(ih _ (ps d+1) (hset nx' p1 hq') ?_ (by omega)).mono (fun n hn hl=>(hset' nx' n hn hl).trans (p2 n hn (by omega))) (fun hD0=>hdead nx' hq' (hD hD0).1 (fun _=>(hD hD0).2));rw[bu8 (bi8.1 hq').1]
    ·rw[if_neg (by simpa using hv)];exact skip (fun h=>hv h.2)
   ·rw[if_neg (by simpa using hl)];exact skip (fun h=>hl h.1)
  ·rw[if_neg (by simpa using hlt)];refine⟨false,G,nx,rfl,hn,fun _ _ _=>rfl,fun _=>⟨rfl,fun hD=>⟨hD,fun hp=>?_⟩⟩,fun h=>by simp at h⟩;cases hp with
   |here=>exact hit rfl
   | @step d hd ha h=>
    obtain⟨row',h1,h2⟩:=j9f (I.at_ d hd);rw[hr] at h1;cases h1;exact hD d hd q hq (by have:=(bi8.1 h2).1;omega) ha h
theorem v9z(hE:E.length<=1000000000)(hN:N<=1000000000)(ht:t<N)(hlev:lev.length=N)(hb:∀n,n<N->lvl lev n<(N:Int)):
  ∀(D F i:Nat) (G:Gr) (nx:List Int) (fl:Nat->Int),z1l N E ps fl G->w8t G nx->i<N->0<=lvl lev i->(N:Int)<=D+lvl lev i->D+E.length+3<=F->v3m N E ps lev t i fl G nx (M51 F i t G lev nx)
 |0,F,i,G,nx,fl,I,hn,hi,h0,hD,hF=>by
  have:=hb i hi;omega
 |D+1,0,i,G,nx,fl,I,hn,hi,h0,hD,hF=>by omega
 |D+1,F+1,i,G,nx,fl,I,hn,hi,h0,hD,hF=>by
  rw[M51,w1q];by_cases e:i=t
  ·subst e;rw[if_pos (by simp)];exact⟨true,G,nx,rfl,hn,fun _ _ _=>rfl,fun h=>by simp at h,fun _=>⟨fl,I,fun n=>by omega,fun _ _ _=>rfl⟩⟩
  ·rw[if_neg (by simp;omega),q9e];have hi':i<G.length:=by rw[I.len];exact hi
   obtain⟨q,h1,h2⟩:=hn i _ (be8 hi');have hrl:=I.rl i _ (be8 hi');exact j6x hE hN ht hlev hb hi e h0 (fun j G nx fl I hn hj hv=>v9z hE hN ht hlev hb D F j G nx fl I hn hj (by omega) (by omega) (by omega)) I (be8 hi') F nx q hn h1 (by omega)
end
def neg(out:List Int):Nat:=out.countP fun v=>decide (v<0)
theorem w1b{out:List Int}{i:Nat}(hi:i<out.length)(h:out[i]<0){v:Int}(hv:0<=v):neg (out.set i v)+1=neg out:=by
 unfold neg;rw[List.countP_set hi,if_pos (by simpa using h),if_neg (by simp;omega)];have:0<out.countP fun v=>decide (v<0):=List.countP_pos_iff.2 ⟨_,bh8 hi,by simpa using h⟩;omega
theorem y8a{lev:List Int}{n:Nat}(h:n<lev.length):lvl lev n=lev[n]:=by
 unfold lvl;rw[db8,be8 h];rfl
theorem w3b{lev:List Int}{j:Nat}(hj:j<lev.length)(v:Int)(n:Nat):lvl (lev.set j v) n=if n=j then v else lvl lev n:=by
 unfold lvl;rw[db8,db8,bt8];by_cases e:n=j
 ·subst e;rw[if_pos rfl,if_pos hj,if_pos rfl];rfl
 ·rw[if_neg (fun q=>e q.symm),if_neg e]
def nI(l:List Nat):List Int:=l.map fun n:Nat=>(n:Int)
structure j5v(N:Nat)(E:List Eg)(fl:Nat->Int)(s:Nat)(lev:List Int)(X:List Nat):Prop where
 len:lev.length=N
 src:lvl lev s=0
 rng:∀n,n<N → -1<=lvl lev n
 cnt:∀n,n<N->lvl lev n+1+(neg lev:Int)<=N
 qm:∀x,x∈X->x<N/\0<=lvl lev x
 done:∀n,n<N->0<=lvl lev n->n ∉ X->∀d:Dt,d.1<E.length->frm E d=n->0<lft E fl d->0<=lvl lev (tow E d)
 pre:∀n,n<N->0<=lvl lev n->n≠s->∃d:Dt,d.1<E.length/\tow E d=n/\0<lft E fl d/\0<=lvl lev (frm E d)/\lvl lev n=lvl lev (frm E d)+1
section
variable{N:Nat}{E:List Eg}{ps:Dt->Nat}{fl:Nat->Int}{G:Gr}{s:Nat}
theorem j5v.visit(I:z1l N E ps fl G)(hs:s<N){lev:List Int}{i:Nat}{qs:List Nat}(L:j5v N E fl s lev (i::qs)){d:Dt}(hd:d.1<E.length)(hf:frm E d=i)(hl:0<lft E fl d)(hv:lvl lev (tow E d)<0):
  j5v N E fl s (lev.set (tow E d) (lvl lev i+1)) (i::(qs++[tow E d]))/\neg (lev.set (tow E d) (lvl lev i+1))+1=neg lev/\∀n,n<N->0<=lvl lev n->0<=lvl (lev.set (tow E d) (lvl lev i+1)) n:=by
 have hi:=L.qm i (by simp);have htw:=I.towlt hd;have hj:tow E d<lev.length:=by rw[L.len];exact htw
 have hn:=w1b hj (by rw[<-y8a hj];exact hv) (v:=lvl lev i+1) (by omega);have key:=w3b hj (lvl lev i+1);refine⟨⟨by simpa using L.len,?_,fun n hn'=>?_,fun n hn'=>?_,fun x hx=>?_,fun n hn' h0 hx d' hd' hf' hl'=>?_,fun n hn' h0 hns=>?_⟩,hn,fun n hn' h0=>?_⟩
 ·rw[key,if_neg (fun e=>by have:=L.src;rw[e] at this;omega)];exact L.src
 ·rw[key];have:=L.rng n hn';split<;>omega
 ·rw[key];have h1:=L.cnt n hn';have h2:=L.cnt i hi.1;split<;>omega
 ·rw[key];rcases ax8.1 hx with e|e
  ·subst e;exact⟨hi.1,by split<;>omega⟩
  ·rcases cm8.1 e with e|e
   ·have:=L.qm x (cl9 _ e);exact⟨this.1,by split<;>omega⟩
   ·simp only[bx9] at e;subst e;exact⟨htw,by rw[if_pos rfl];omega⟩
 ·rw[key] at h0;have hne:n≠tow E d:=fun e=>hx (by rw[e];simp);rw[if_neg hne] at h0
  have:=L.done n hn' h0 (fun q=>hx (by
   rcases ax8.1 q with e|e
   ·rw[e];simp
   ·exact cl9 _ (cm8.2 (.inl e)))) d' hd' hf' hl'
  rw[key];split<;>omega
 ·rw[key] at h0 ⊢;by_cases e:n=tow E d
  ·rw[if_pos e];refine⟨d,hd,e.symm,hl,?_,?_⟩
   ·rw[key,hf,if_neg (fun q=>by rw[q] at hi;omega)];exact hi.2
   ·rw[key,hf,if_neg (fun q=>by rw[q] at hi;omega)]
  ·rw[if_neg e] at h0 ⊢;obtain⟨d',h1,h2,h3,h4,h5⟩:=L.pre n hn' h0 hns;refine⟨d',h1,h2,h3,?_,?_⟩
   ·rw[key];split<;>omega
   ·rw[key,if_neg (fun q=>by rw[q] at h4;omega)];exact h5
 ·rw[key];split<;>omega
theorem z1r(F:Nat)(I:z1l N E ps fl G)(hs:s<N)(hN:N<=1000000000){i:Nat}{row:List q6a}(hr:G[i]? = some row)(hE:E.length<=1000000000)(k:List Int->List Int->Option (List Int)):
  ∀(m p:Nat) (qs:List Nat) (lev:List Int),p+m=row.length->j5v N E fl s lev (i::qs)->(∀d:Dt,d.1<E.length->frm E d=i->ps d<p->0<lft E fl d->0<=lvl lev (tow E d))->qs.length+neg lev<=2000000000->
   ∃qs' lev',j6i F G i k m p (nI qs) lev=k (nI qs') lev'/\j5v N E fl s lev' (i::qs')/\(∀d:Dt,d.1<E.length->frm E d=i->0<lft E fl d->0<=lvl lev' (tow E d))/\qs'.length+neg lev'=qs.length+neg lev
 |0,p,qs,lev,hp,L,hd,hb=>⟨qs,lev,rfl,L,fun d hv hf hl=>hd d hv hf (by
   obtain⟨row',h1,h2⟩:=j9f (I.at_ d hv);rw[hf,hr] at h1;cases h1;have:=(bi8.1 h2).1;omega) hl,rfl⟩
 |m+1,p,qs,lev,hp,L,hd,hb=>by
  have hlt:p<row.length:=by omega
  have ha2:at2 G i p=some row[p]:=by unfold at2;rw[hr,cl8,be8 hlt]
  obtain⟨d,hdv,hf,hps⟩:=I.all _ _ _ ha2;have ea:=I.at_ d hdv;rw[hf,hps,ha2] at ea;simp only[bc8] at ea;have hrow:row[p]? = some (q6a.mk (tow E d) (lft E fl d) (ps (rev d))):=by rw[be8 hlt,ea]
  have hi:=L.qm i (by simp);have htw:=I.towlt hdv;have hcast:((p:Int)+1)=((p+1:Nat):Int):=by omega
  have next:∀lev':List Int,(∀n,n<N->0<=lvl lev n->0<=lvl lev' n)->(0<lft E fl d->0<=lvl lev' (tow E d))->∀d':Dt,d'.1<E.length->frm E d'=i->ps d'<p+1->0<lft E fl d'->0<=lvl lev' (tow E d'):=by
   intro lev' hm hn d' hd' hf' hp' hl';by_cases e:ps d'=p
   ·have:=I.inj d' d hd' hdv (by rw[hf',hf]) (by rw[e,hps]);subst this;exact hn hl'
   ·exact hm _ (I.towlt hd') (hd d' hd' hf' (by omega) hl')
  rw[j6i];simp only[q9e];rw[z5c hr,cl8,z5c hrow,cl8,hcast];simp only;by_cases hl:0<lft E fl d
  ·rw[if_pos (by simpa using hl),z7l (by rw[L.len];exact htw),cl8];by_cases hv:lvl lev (tow E d)<0
   ·rw[if_pos (by simpa using hv),z7l (by rw[L.len];exact hi.1),cl8,cl8,if_pos (by simp[nI];omega)];have hc:=L.cnt i hi.1;rw[q9r (by omega) (by omega),bq8];obtain⟨L',hn,hm⟩:=L.visit I hs hdv hf hl hv;have e2:nI qs++[((tow E d:Nat):Int)]=nI (qs++[tow E d]):=by simp[nI]
    rw[e2];obtain⟨qs',lev',e,h1,h2,h3⟩:=z1r F I hs hN hr hE k m (p+1) (qs++[tow E d]) _ (by omega) L' (next _ hm (fun _=>(L'.qm _ (by simp)).2)) (by simp;omega);exact⟨qs',lev',e,h1,h2,by rw[h3];simp;omega⟩
   ·rw[if_neg (by simpa using hv)];exact z1r F I hs hN hr hE k m (p+1) qs lev (by omega) L (next lev (fun _ _ h=>h) (fun _=>by omega)) hb
  ·rw[if_neg (by simpa using hl)];exact z1r F I hs hN hr hE k m (p+1) qs lev (by omega) L (next lev (fun _ _ h=>h) (fun h=>absurd h hl)) hb
theorem v1g(F:Nat)(I:z1l N E ps fl G)(hs:s<N)(hN:N<=1000000000)(hE:E.length<=1000000000):
  ∀(n:Nat) (qs:List Nat) (lev:List Int),j5v N E fl s lev qs->qs.length+neg lev<n->qs.length+neg lev<=2000000000->∃lev',z2r F G n (nI qs) lev=some lev'/\j5v N E fl s lev' []
 |0,qs,lev,L,hn,hb=>by omega
 |n+1,[],lev,L,hn,hb=>⟨lev,by rw[z2r,if_neg (by simp[nI])],L⟩
 |n+1,i::qs,lev,L,hn,hb=>by
  have hi:=L.qm i (by simp);have hig:i<G.length:=by rw[I.len];exact hi.1
  have hr:=be8 hig;have hrl:=I.rl i _ hr;have e0:(nI (i::qs))=(i:Int)::nI qs:=rfl;rw[z2r,e0,if_pos (by simp),q9e];have e1:idx ((i:Int)::nI qs) 0=some (i:Int):=by unfold idx;simp
  rw[e1,cl8,if_pos (by simp),z5c hr,cl8,q9e,if_pos (by omega)];simp only[List.drop_succ_cons,List.drop_zero];simp only[cj8] at hn hb;obtain⟨qs',lev',e,h1,h2,h3⟩:=z1r F I hs hN hr hE (fun l91 l92=>jn (fun(l83:List Int) (l84:List Int)=>z2r F G n l83 l84) (fun k82=>k82 l91 l92)) (((G[i].length:Nat):Int):Int).toNat 0 qs lev (by simp) L (fun d _ _ h=>by omega) (by omega)
  have L':j5v N E fl s lev' qs':=⟨h1.len,h1.src,h1.rng,h1.cnt,fun x hx=>h1.qm x (cl9 _ hx),fun m hm h0 hx d hd hf hl=>by
   by_cases e:m=i
   ·exact h2 d hd (by rw[hf,e]) hl
   ·exact h1.done m hm h0 (by simp;exact⟨e,hx⟩) d hd hf hl,h1.pre⟩
  obtain⟨lev'',e3,L''⟩:=v1g F I hs hN hE n qs' lev' L' (by omega) (by omega);exact⟨lev'',e.trans e3,L''⟩
theorem v2g(F:Nat)(k:List Int->Option (List Int)):∀(m n:Nat) (l:List Int),n+m=l.length->(∀i,i<n->l[i]? = some (-1))->z5x F k m n l=k (List.replicate l.length (-1))
 |0,n,l,h,hl=>by
  rw[z5x]
  congr 1
  apply ay8;intro i;by_cases hi:i<l.length
  ·rw[hl i (by omega),bt9,if_pos hi]
  ·rw[bb9 (by omega),bb9 (by simp;omega)]
 |m+1,n,l,h,hl=>by
  rw[z5x,q9l (show n<l.length by omega),cl8,bq8];have hcast:((n:Int)+1)=((n+1:Nat):Int):=by omega
  rw[hcast,v2g F k m (n+1) (l.set n (-1)) (by simp;omega) (fun i hi=>by
   rw[bt8];by_cases e:n=i
   ·rw[if_pos e,if_pos (by omega)]
   ·rw[if_neg e];exact hl i (by omega))]
  simp
theorem w8b(F:Nat)(I:z1l N E ps fl G)(hs:s<N)(hN:N<=1000000000)(hE:E.length<=1000000000)(hF:N+5<=F)(a3 a4:List Int):∃lev,M50 F s G a3 a4=some lev/\j5v N E fl s lev []:=by
 have hl:=I.len;have hcount:neg (List.replicate N (-1:Int))=N:=by unfold neg;rw[List.countP_replicate];simp
 have hv:∀n,lvl (List.replicate N (-1:Int)) n = -1:=by
  intro n;unfold lvl;rw[db8,bt9];split<;>rfl
 have hsr:s<(List.replicate N (-1:Int)).length:=by simpa using hs
 have key:=w3b hsr 0;have hn:=w1b hsr (by simp) (v:=0) (by omega);rw[hcount] at hn
 have L:j5v N E fl s ((List.replicate N (-1:Int)).set s 0) [s]:=by
  refine⟨by simp,by rw[key,if_pos rfl],fun n _=>?_,fun n _=>?_,fun x hx=>?_,fun n hn' h0 hx=>?_,fun n hn' h0 hx=>?_⟩
  ·rw[key,hv];split<;>omega
  ·rw[key,hv];split<;>omega
  ·simp only[bx9] at hx;subst hx;exact⟨hs,by rw[key,if_pos rfl];omega⟩
  ·rw[key,hv] at h0;split at h0
   ·rename_i e;exact absurd (by simpa using e) hx
   ·omega
  ·rw[key,hv] at h0;split at h0
   ·rename_i e;exact absurd e hx
   ·omega
 obtain⟨lev,e,L'⟩:=v1g F I hs hN hE F [s] _ L (by simp;omega) (by simp;omega);refine⟨lev,?_,L'⟩;unfold M50;rw[if_pos (by rw[hl];omega),q9e];refine(v2g F _ _ 0 _ (by simp) (fun i hi=>by omega)).trans ?_;simp only[al9,bq8,hl];rw[q9l hsr,cl8];exact e
theorem j5v.path{lev:List Int}{t:Nat}(L:j5v N E fl s lev [])(ht:t<N)(h0:0<=lvl lev t)(I:z1l N E ps fl G):Pth E fl lev t s:=by
 have key:∀(q:Nat) (n:Nat),n<N->lvl lev n=q->Pth E fl lev t n->Pth E fl lev t s:=by
  intro q
  induction q with
  |zero=>
   intro n hn hq hp;by_cases e:n=s
   ·rw[<-e];exact hp
   ·obtain⟨d,h1,h2,h3,h4,h5⟩:=L.pre n hn (by omega) e;omega
  |succ q ih=>
   intro n hn hq hp;by_cases e:n=s
   ·rw[<-e];exact hp
   ·obtain⟨d,h1,h2,h3,h4,h5⟩:=L.pre n hn (by omega) e;exact ih (frm E d) (I.lt d h1) (by omega) (.step h1 ⟨h3,by rw[h2];exact h5⟩ (by rw[h2];exact hp))
 exact key (lvl lev t).toNat t ht (by omega) .here
theorem j5v.bnd{lev:List Int}{X:List Nat}(L:j5v N E fl s lev X):∀n,n<N->lvl lev n<(N:Int):=fun n hn=>by have:=L.cnt n hn;omega
end
section
variable{N:Nat}{E:List Eg}{ps:Dt->Nat}{s t:Nat}
def w7u(N:Nat)(E:List Eg)(s t:Nat)(fl:Nat->Int):Prop:=∀n,n<N->n≠s->n≠t->ex E fl n=0
theorem v6h(F:Nat)(hs:s<N)(ht:t<N)(hst:s≠t)(hN:N<=1000000000)(hE:E.length<=1000000000)(hF:N+E.length+3<=F){lev:List Int}(hlev:lev.length=N)(hb:∀n,n<N->lvl lev n<(N:Int))(h0:lvl lev s=0)
  (k:Gr->List Int->Option (Gr×List Int×List Int)):∀(n:Nat) (G:Gr) (nx:List Int) (fl:Nat->Int),z1l N E ps fl G->w8t G nx->w7u N E s t fl->1099511627776*(E.length:Int) - ex E fl t<n->
   ∃G' nx' fl',j9j F s t lev k n G nx=k G' nx'/\z1l N E ps fl' G'/\w7u N E s t fl'/\ex E fl t<=ex E fl' t/\(y7d E ps fl lev t nx->Pth E fl lev t s->ex E fl t<ex E fl' t)
 |0,G,nx,fl,I,hn,hc,hm=>by
  have:=I.ex_le t;omega
 |n+1,G,nx,fl,I,hn,hc,hm=>by
  obtain⟨b,G',nx',e,p1,p2,p3,p4⟩:=v9z hE hN ht hlev hb N F s G nx fl I hn hs (by omega) (by omega) (by omega);rw[j9j,e,cl8];cases b with
  |true=>
   simp only[if_true];obtain⟨fl',I',hex,_⟩:=p4 rfl;have et:ex E fl' t=ex E fl t+1:=by rw[hex,if_pos rfl,if_neg hst];omega
   obtain⟨G2,nx2,fl2,e2,I2,c2,l2,_⟩:=v6h F hs ht hst hN hE hF hlev hb h0 k n G' nx' fl' I' p1 (fun m hm h1 h2=>by rw[hex,hc m hm h1 h2,if_neg (fun e=>h2 e.symm),if_neg (fun e=>h1 e.symm)];rfl) (by rw[et];omega);exact⟨G2,nx2,fl2,e2,I2,c2,by omega,fun _ _=>by omega⟩
  |false=>
   simp only[cy8,if_false];obtain⟨eG,hD⟩:=p3 rfl;subst eG;exact⟨G',nx',fl,rfl,I,hc,by omega,fun h1 h2=>absurd h2 (hD h1).2⟩
theorem v7h(F:Nat)(hs:s<N)(ht:t<N)(hst:s≠t)(hN:N<=1000000000)(hE:E.length<=1000000000)(hF:1099511627776*E.length+1099511627776+N+E.length+5<=F):
  ∀(n:Nat) (G:Gr) (l40 l41:List Int) (fl:Nat->Int),z1l N E ps fl G->w7u N E s t fl->0<=ex E fl t->1099511627776*(E.length:Int) - ex E fl t<n->
   ∃G' lev nx' fl',z4y F s t n G l40 l41=some (G',lev,nx')/\z1l N E ps fl' G'/\w7u N E s t fl'/\j5v N E fl' s lev []/\lvl lev t<0
 |0,G,l40,l41,fl,I,hc,h0,hm=>by
  have:=I.ex_le t;omega
 |n+1,G,l40,l41,fl,I,hc,h0,hm=>by
  obtain⟨lev,e,L⟩:=w8b F I hs hN hE (by omega) l40 l41;rw[z4y,q9e,e,cl8,z7l (by rw[L.len];exact ht),cl8];by_cases hv:lvl lev t<0
  ·rw[if_pos (by simpa using hv)];exact⟨G,lev,l41,fl,rfl,I,hc,L,hv⟩
  ·rw[if_neg (by simpa using hv),if_pos (by rw[I.len];omega),q9e];have hlen:(List.replicate (((G.length:Nat):Int)).toNat (0:Int))=List.replicate N 0:=by rw[I.len];rfl
   rw[hlen]
   have hnx:w8t G (List.replicate N 0):=by
    intro i row hr;have hi:=(bi8.1 hr).1;rw[I.len] at hi;exact⟨0,by rw[bt9,if_pos hi];rfl,by omega⟩
   obtain⟨G',nx',fl',e2,I',c',l',st⟩:=v6h F hs ht hst hN hE (by omega) L.len L.bnd L.src (fun l54 l55=>jn (fun(l43:Gr) (l44:List Int) (l45:List Int)=>z4y F s t n l43 l44 l45) (fun k42=>k42 l54 lev l55)) F G (List.replicate N 0) fl I hnx hc (by omega)
   have lt:=st (fun d hd q h1 h2=>by
    rw[bt9,if_pos (I.lt d hd)] at h1;simp only[bc8] at h1;omega) (L.path ht (by omega) I)
   obtain⟨G3,lev3,nx3,fl3,e3,I3,c3,L3,v3⟩:=v7h F hs ht hst hN hE hF n G' lev nx' fl' I' c' (by omega) (by omega);exact⟨G3,lev3,nx3,fl3,e2.trans e3,I3,c3,L3,v3⟩
theorem y7b(F:Nat)(hs:s<N)(ht:t<N)(hst:s≠t)(hN:N<=1000000000)(hE:E.length<=1000000000)(hF:1099511627776*E.length+1099511627776+N+E.length+5<=F){G:Gr}(a4 a5:List Int)(I:z1l N E ps (fun _=>0) G):
      ∃G' lev nx' fl',M19 F s t G a4 a5=some (G',lev,nx')/\z1l N E ps fl' G'/\w7u N E s t fl'/\j5v N E fl' s lev []/\lvl lev t<0:=by
  have h0:∀n,ex E (fun _=>0) n=0:=fun n=>sm_zero' fun k _=>by split<;>split<;>rfl
  exact v7h F hs ht hst hN hE hF F G a4 a5 _ I (fun n _ _ _=>h0 n) (by rw[h0];omega) (by rw[h0];omega)
end
theorem w8f{G:Gr}{i:Nat}{row:List q6a}(a:q6a)(hr:G[i]? = some row)(i' p':Nat):
  at2 (G.set i (row++[a])) i' p'=if i'=i/\p'=row.length then some a else at2 G i' p':=by
 have hi:=(bi8.1 hr).1;unfold at2;rw[bt8];by_cases e:i=i'
 ·subst e;rw[if_pos rfl,if_pos hi,hr,cl8,cl8];by_cases e:p'=row.length
  ·subst e;simp
  ·rw[if_neg (fun q=>e q.2),ce9];split
   ·rfl
   ·rename_i h;rw[bb9 (by simp;omega),bb9 (by omega)]
 ·rw[if_neg e,if_neg (fun q=>e q.1.symm)]
theorem w4e(E:List Eg)(e:Eg)(k:Nat):eg (E++[e]) k=if k=E.length then e else eg E k:=by
 unfold eg;rw[ce9];by_cases h:k=E.length
 ·subst h;simp
 ·rw[if_neg h];split
  ·rfl
  ·rename_i h';rw[bb9 (by simp;omega),bb9 (by omega)]
theorem w9g(F:Nat){N:Nat}{E:List Eg}{ps:Dt->Nat}{G:Gr}(I:z1l N E ps (fun _=>0) G)(hE:E.length<=1000000000){a b:Nat}(ha:a<N)(hb:b<N)(hne:a≠b){c:Int}(h0:0<=c)(hc:c<=1099511627776)(a5 a6:List Int):
    ∃ps' G',M17 F a b c G a5 a6=some G'/\z1l N (E++[(a,b,c)]) ps' (fun _=>0) G':=by
  have ha':a<G.length:=by rw[I.len];exact ha
  have hb':b<G.length:=by rw[I.len];exact hb
  obtain⟨ra,hra⟩:∃ra,G[a]? = some ra:=⟨_,be8 ha'⟩;obtain⟨rb,hrb⟩:∃rb,G[b]? = some rb:=⟨_,be8 hb'⟩;have la:=I.rl a ra hra;have lb:=I.rl b rb hrb;have q1:∀x,(G.set a x)[b]? = some rb:=fun x=>by rw[cd8 hne];exact hrb
  have q2:∀x:List q6a,(G.set a x)[a]? = some x:=fun x=>by rw[bu8 ha']
  refine⟨fun d=>if d.1=E.length then (if d.2=true then rb.length else ra.length) else ps d,(G.set a (ra++[q6a.mk b c rb.length])).set b (rb++[q6a.mk a 0 ra.length]),?_,?_⟩
  · unfold M17
    rw[z5c hra,cl8,z5c hrb,cl8,if_pos (by simp;omega)];simp only[bq8];rw[z5c (q1 _),cl8,z5c (q2 _),cl8]
    have hw:w64 (((ra++[q6a.mk (b:Int) c ((rb.length:Nat):Int)]).length:Nat) - 1)=((ra.length:Nat):Int):=by
      rw[q9r (by simp) (by simp;omega)];simp
    rw[hw,if_pos (by simp;omega)]
  · have key:∀i p,at2 ((G.set a (ra++[q6a.mk b c rb.length])).set b (rb++[q6a.mk a 0 ra.length])) i p =
        if i=b/\p=rb.length then some (q6a.mk a 0 ra.length) else if i=a/\p=ra.length then some (q6a.mk b c rb.length) else at2 G i p:=fun i p=>by
      rw[w8f _ (q1 _),w8f _ hra]
    have old:∀d:Dt,d.1<E.length->frm (E++[(a,b,c)]) d=frm E d/\tow (E++[(a,b,c)]) d=tow E d/\lft (E++[(a,b,c)]) (fun _=>0) d=lft E (fun _=>0) d:=fun d hd=>by
      unfold frm tow lft;have e:eg (E++[(a,b,c)]) d.1=eg E d.1:=by rw[w4e,if_neg (by omega)]
      rw[e];exact⟨rfl,rfl,rfl⟩
    have nw:∀d:Dt,d.1=E.length->frm (E++[(a,b,c)]) d=(if d.2=true then b else a)/\tow (E++[(a,b,c)]) d=(if d.2=true then a else b)/\lft (E++[(a,b,c)]) (fun _=>0) d=(if d.2=true then 0 else c):=fun d hd=>by
      unfold frm tow lft;rw[w4e,if_pos hd];refine⟨rfl,rfl,?_⟩;simp
    have low:∀d:Dt,d.1<E.length->∀row,G[frm E d]? = some row->ps d<row.length:=fun d hd row hr=>by
      obtain⟨row',h1,h2⟩:=j9f (I.at_ d hd);rw[hr] at h1;cases h1;exact(bi8.1 h2).1
    refine⟨by simpa using I.len,fun d hd=>?_,fun d hd=>?_,fun d hd=>?_,fun i p x hx=>?_,fun d d' hd hd' hf hp=>?_,fun d hd=>?_,fun k hk=>?_,fun i r hr0=>?_⟩
    · simp at hd
      by_cases e:d.1=E.length
      · rw[(nw d e).1,(nw d e).2.1];split<;>omega
      · rw[(old d (by omega)).1,(old d (by omega)).2.1];exact I.ne d (by omega)
    · simp at hd
      by_cases e:d.1=E.length
      · rw[(nw d e).1];split<;>omega
      · rw[(old d (by omega)).1];exact I.lt d (by omega)
    · simp at hd
      rw[key];by_cases e:d.1=E.length
      · rw[(nw d e).1,(nw d e).2.1,(nw d e).2.2]
        obtain⟨k,bb⟩:=d;simp only at e;subst e;cases bb
        · simp[rev,hne]
        · simp[rev]
      · have hd':d.1<E.length:=by omega
        rw[(old d hd').1,(old d hd').2.1,(old d hd').2.2];simp only[rev,e,if_false];rw[if_neg (fun q=>by have:=low d hd' rb (by rw[q.1];exact hrb);omega),if_neg (fun q=>by have:=low d hd' ra (by rw[q.1];exact hra);omega)];exact I.at_ d hd'
    · rw[key] at hx
      split at hx
      · rename_i q
        refine⟨(E.length,true),by simp,?_,?_⟩
        · rw[(nw _ rfl).1];simp[q.1]
        · simp[q.2]
      · split at hx
        · rename_i q
          refine⟨(E.length,false),by simp,?_,?_⟩
          · rw[(nw _ rfl).1];simp[q.1]
          · simp[q.2]
        · obtain⟨d,hd,h1,h2⟩:=I.all i p x hx
          refine⟨d,by simp;omega,by rw[(old d hd).1,h1],?_⟩
          show(if d.1=E.length then _ else ps d)=p
          rw[if_neg (by omega),h2]
    · simp at hd hd'
      by_cases e:d.1=E.length
      · by_cases e':d'.1=E.length
        · rw[(nw d e).1,(nw d' e').1] at hf
          obtain⟨k,bb⟩:=d;obtain⟨k',bb'⟩:=d';simp only at e e';subst e;subst e';cases bb<;>cases bb'<;>simp at hf<;>first|rfl|omega
        · exfalso
          have hd2:d'.1<E.length:=by omega
          rw[(nw d e).1,(old d' hd2).1] at hf;simp only[e,e',if_true,if_false] at hp;cases h:d.2
          · rw[h] at hf hp
            simp only[cy8,if_false] at hf hp;have:=low d' hd2 ra (by rw[<-hf];exact hra);omega
          · rw[h] at hf hp
            simp only[if_true] at hf hp;have:=low d' hd2 rb (by rw[<-hf];exact hrb);omega
      · have hd2:d.1<E.length:=by omega
        by_cases e':d'.1=E.length
        · exfalso
          rw[(nw d' e').1,(old d hd2).1] at hf;simp only[e,e',if_true,if_false] at hp;cases h:d'.2
          · rw[h] at hf hp
            simp only[cy8,if_false] at hf hp;have:=low d hd2 ra (by rw[hf];exact hra);omega
          · rw[h] at hf hp
            simp only[if_true] at hf hp;have:=low d hd2 rb (by rw[hf];exact hrb);omega
        · simp only[e,e',if_false] at hp
          rw[(old d hd2).1,(old d' (by omega)).1] at hf;exact I.inj d d' hd2 (by omega) hf hp
    · simp at hd
      by_cases e:d.1=E.length
      · rw[(nw d e).2.2];split<;>omega
      · rw[(old d (by omega)).2.2];exact I.pos d (by omega)
    · simp at hk
      rw[w4e];split
      · exact hc
      · exact I.cap k (by omega)
    · simp only[bp8,cj8,cb9]
      rw[bt8] at hr0;split at hr0
      · rw[if_pos (by simpa using hb')] at hr0
        simp only[bc8] at hr0;subst hr0;simp;omega
      · rw[bt8] at hr0
        split at hr0
        · simp only[bc8] at hr0
          subst hr0;simp;omega
        · have:=I.rl i r hr0;omega
abbrev BIG:Int:=1099511627776
section
variable{σ φ:Type}[DecidableEq σ][DecidableEq φ]
structure w9h(N n:Nat)(E:List Eg)(Ls:List σ)(Fs:List φ)(fn:σ->φ)(tos:σ->φ->Prop)(Z:φ->Prop)(nd:σ->Nat)(fi:φ->Nat)(src:Nat):Prop where
 ln:Ls.Nodup
 fnd:Fs.Nodup
 inF:∀s,s∈Ls->fn s∈Fs
 ndN:∀s,s∈Ls->n<=nd s/\nd s<src
 fiN:∀f,f∈Fs->fi f<n
 srcN:src+1=N
 nsrc:n<=src
 ndI:∀s s',s∈Ls->s'∈Ls->nd s=nd s'->s=s'
 fiI:∀f f',f∈Fs->f'∈Fs->fi f=fi f'->f=f'
 ty:∀k,k<E.length->(∃s,s∈Ls/\eg E k=(fi (fn s),nd s,1))\/(∃s y,s∈Ls/\y∈Fs/\tos s y/\eg E k=(nd s,fi y,BIG))\/(∃y,y∈Fs/\Z y/\eg E k=(src,fi y,BIG))
 e2:∀s,s∈Ls->∃k,k<E.length/\eg E k=(fi (fn s),nd s,1)
 e3:∀k k',k<E.length->k'<E.length->(eg E k).2.1=(eg E k').2.1->n<=(eg E k).2.1->k=k'
 e4:∀s y,s∈Ls->y∈Fs->tos s y->∃k,k<E.length/\eg E k=(nd s,fi y,BIG)
 e5:∀y,y∈Fs->Z y->∃k,k<E.length/\eg E k=(src,fi y,BIG)
def uE(E:List Eg)(fl:Nat->Int)(nd:σ->Nat)(s:σ):Int:=sm (List.range E.length) (fun k=>if (eg E k).2.1=nd s then fl k else 0)
def vE(E:List Eg)(fl:Nat->Int)(nd:σ->Nat)(fi:φ->Nat)(s:σ)(y:φ):Int:=sm (List.range E.length) (fun k=>if (eg E k).1=nd s/\(eg E k).2.1=fi y then fl k else 0)
theorem w2r{α:Type}{l:List α}{f:α->Int}(h:0<sm l f):∃x,x∈l/\0<f x:=by
 by_cases h':∃x,x∈l/\0<f x
 ·exact h'
 ·have:=j6r (l:=l) (f:=f) (g:=fun _=>0) (fun x hx=>by
   by_cases p:0<f x
   ·exact absurd ⟨x,hx,p⟩ h'
   ·omega)
  rw[z3d] at this;omega
theorem j9a(E:List Eg)(fl:Nat->Int)(n:Nat):ex E fl n=sm (List.range E.length) (fun k=>if (eg E k).2.1=n then fl k else 0) - sm (List.range E.length) (fun k=>if (eg E k).1=n then fl k else 0):=by
 unfold ex;rw[z3u]
variable{N n:Nat}{E:List Eg}{Ls:List σ}{Fs:List φ}{fn:σ->φ}{tos:σ->φ->Prop}{Z:φ->Prop}{nd:σ->Nat}{fi:φ->Nat}{src:Nat}{t:φ}{fl:Nat->Int}
theorem w9h.inE(S:w9h N n E Ls Fs fn tos Z nd fi src){f:φ}(hf:f∈Fs)(hz:¬Z f):sm Ls (fun s=>vE E fl nd fi s f)=sm (List.range E.length) (fun k=>if (eg E k).2.1=fi f then fl k else 0):=by
 unfold vE;rw[j7c];refine q4n fun k hk=>?_;have hk:=da8.1 hk;by_cases h:(eg E k).2.1=fi f
 ·rw[if_pos h];rcases S.ty k hk with ⟨s,hs,e⟩|⟨s,y,hs,hy,ht,e⟩|⟨y,hy,hzy,e⟩
  ·have:=S.ndN s hs;have:=S.fiN f hf;rw[e] at h;simp only at h;omega
  ·rw[e] at h ⊢;simp only at h ⊢;rw[z9b (a:=s) _ S.ln hs (fun x hx hne=>by rw[if_neg (fun q=>hne (S.ndI _ _ hx hs q.1.symm))])];rw[if_pos ⟨rfl,h⟩]
  ·rw[e] at h;have:=S.fiI _ _ hy hf h;subst this;exact absurd hzy hz
 ·rw[if_neg h];exact sm_zero' fun s _=>if_neg (fun q=>h q.2)
theorem w9h.outE(S:w9h N n E Ls Fs fn tos Z nd fi src){f:φ}(hf:f∈Fs):sm Ls (fun s=>if fn s=f then uE E fl nd s else 0)=sm (List.range E.length) (fun k=>if (eg E k).1=fi f then fl k else 0):=by
 have e0:sm Ls (fun s=>if fn s=f then uE E fl nd s else 0)=sm Ls (fun s=>sm (List.range E.length) (fun k=>if fn s=f/\(eg E k).2.1=nd s then fl k else 0)):=by
  refine q4n fun s _=>?_;by_cases h:fn s=f
  ·rw[if_pos h];unfold uE;refine q4n fun k _=>?_;simp[h]
  ·rw[if_neg h];exact(sm_zero' fun k _=>if_neg (fun q=>h q.1)).symm
 rw[e0,j7c];refine q4n fun k hk=>?_;have hk:=da8.1 hk
 have key:∀s,s∈Ls->(eg E k).2.1=nd s->eg E k=(fi (fn s),nd s,1):=by
  intro s hs h;obtain⟨k',hk',e⟩:=S.e2 s hs;have:=S.e3 k k' hk hk' (by rw[e];exact h) (by rw[h];exact(S.ndN s hs).1);rw[this];exact e
 by_cases h:(eg E k).1=fi f
 ·rw[if_pos h];rcases S.ty k hk with ⟨s,hs,e⟩|⟨s,y,hs,hy,ht,e⟩|⟨y,hy,hzy,e⟩
  ·rw[e] at h;have hfn:=S.fiI _ _ (S.inF s hs) hf h
   rw[z9b (a:=s) _ S.ln hs (fun x hx hne=>by
    rw[if_neg]
    rintro⟨_,q⟩
    rw[e] at q;exact hne (S.ndI _ _ hx hs q.symm)),if_pos ⟨hfn,by rw[e]⟩]
  ·have:=S.ndN s hs;have:=S.fiN f hf;rw[e] at h;simp only at h;omega
  ·have:=S.nsrc;have:=S.fiN f hf;rw[e] at h;simp only at h;omega
 ·rw[if_neg h];refine sm_zero' fun s hs=>if_neg ?_
  rintro⟨q1,q2⟩
  rw[key s hs q2,q1] at h;exact h rfl
theorem w9h.uv(S:w9h N n E Ls Fs fn tos Z nd fi src)(htF:t∈Fs)(hp:∀d:Dt,d.1<E.length->0<=lft E fl d)(hc:w7u N E src (fi t) fl):UV Ls Fs fn tos Z t (uE E fl nd) (vE E fl nd fi):=by
 have h0:∀k,k<E.length->0<=fl k:=fun k hk=>by have:=hp (k,true) hk;simpa[lft] using this
 refine⟨S.fnd,S.inF,fun s hs=>?_,fun s hs=>?_,fun s hs y hy=>?_,fun s hs y hy hv=>?_,fun s hs=>?_,fun f hf hz hft=>?_⟩
 ·exact q2z fun k hk=>by split;exact h0 k (da8.1 hk);exact db9 _
 ·obtain⟨k,hk,e⟩:=S.e2 s hs;unfold uE
  rw[z9b (a:=k) _ cd9 (da8.2 hk) (fun k' hk' hne=>by
   rw[if_neg];intro q;exact hne (S.e3 k' k (da8.1 hk') hk (by rw[e];exact q) (by rw[q];exact(S.ndN s hs).1))),if_pos (by rw[e])]
  have:=hp (k,false) hk;simp only[lft,e,cy8,if_false] at this;omega
 ·exact q2z fun k hk=>by split;exact h0 k (da8.1 hk);exact db9 _
 ·obtain⟨k,hk,h⟩:=w2r hv;have hk:=da8.1 hk;split at h
  ·rename_i q;rcases S.ty k hk with ⟨s',hs',e⟩|⟨s',y',hs',hy',ht,e⟩|⟨y',hy',hzy,e⟩
   ·rw[e] at q;have:=S.fiN _ (S.inF s' hs');have:=(S.ndN s hs).1;have:=q.1;simp only at this;omega
   ·rw[e] at q;rw[<-S.ndI _ _ hs' hs q.1,<-S.fiI _ _ hy' hy q.2];exact ht
   ·rw[e] at q;have:=S.ndN s hs;have:=q.1;simp only at this;omega
  ·omega
 ·have hn:=S.ndN s hs;have ht:=S.fiN t htF;have hsr:=S.srcN;have c:=hc (nd s) (by omega) (by omega) (by omega);rw[j9a] at c
  have e1:sm Fs (vE E fl nd fi s)=sm (List.range E.length) (fun k=>if (eg E k).1=nd s then fl k else 0):=by
   unfold vE;rw[j7c];refine q4n fun k hk=>?_;have hk:=da8.1 hk;by_cases h:(eg E k).1=nd s
   ·rw[if_pos h];rcases S.ty k hk with ⟨s',hs',e⟩|⟨s',y',hs',hy',ht,e⟩|⟨y',hy',hzy,e⟩
    ·have:=S.fiN _ (S.inF s' hs');rw[e] at h;simp only at h;omega
    ·rw[z9b (a:=y') _ S.fnd hy' (fun x hx hne=>by
      rw[if_neg]
      rintro⟨_,q⟩
      rw[e] at q;exact hne (S.fiI _ _ hx hy' q.symm)),if_pos ⟨h,by rw[e]⟩]
    ·rw[e] at h;simp only at h;omega
   ·rw[if_neg h];exact sm_zero' fun y _=>if_neg (fun q=>h q.1)
  rw[e1];unfold uE;omega
 ·have hn:=S.fiN f hf;have hsr:=S.srcN;have hns:=S.nsrc;have c:=hc (fi f) (by omega) (by omega) (fun e=>hft (S.fiI _ _ hf htF e));rw[j9a] at c;rw[z3u,S.outE hf,S.inE hf hz];omega
theorem w9h.closed(S:w9h N n E Ls Fs fn tos Z nd fi src)(htF:t∈Fs)(hzt:¬Z t)(hp:∀d:Dt,d.1<E.length->0<=lft E fl d)(hlt:∀d:Dt,d.1<E.length->frm E d<N)(hc:w7u N E src (fi t) fl){lev:List Int}(L:j5v N E fl src lev [])(hv:lvl lev (fi t)<0)(hm:Ls.length<=1000000000):
  UCl Ls Fs fn tos Z t (uE E fl nd) (vE E fl nd fi) (fun f=>decide (0<=lvl lev (fi f))) (fun s=>decide (0<=lvl lev (nd s))):=by
 have U:=S.uv htF hp hc;have h0:∀k,k<E.length->0<=fl k:=fun k hk=>by have:=hp (k,true) hk;simpa[lft] using this
 have hsr:=S.srcN;have hns:=S.nsrc;have rng:∀(k:Nat),k∈List.range E.length->k<E.length:=fun k hk=>da8.1 hk
 have fl2:∀k s y,k<E.length->s∈Ls->y∈Fs->eg E k=(nd s,fi y,BIG)->fl k<=1:=by
  intro k s y hk hs hy e
  have g1:fl k<=vE E fl nd fi s y:=by
   have:=j7r (l:=List.range E.length) (f:=fun k=>if (eg E k).1=nd s/\(eg E k).2.1=fi y then fl k else 0) (fun x hx=>by split;exact h0 x (rng x hx);exact db9 _) (da8.2 hk);simp only[e,and_self,if_true] at this;exact this
  have g2:=j7r (fun y hy=>U.v0 s hs y hy) hy;have g3:=U.sum s hs;have g4:=U.u1 s hs;omega
 have fl3:∀k y,k<E.length->y∈Fs->eg E k=(src,fi y,BIG)->fl k<=1000000000:=by
  intro k y hk hy e
  have a1:sm (List.range N) (ex E fl)=0:=by
   unfold ex;rw[j7c];refine sm_zero' fun k hk=>?_;have hk:=rng k hk;have l1:=hlt (k,false) hk;have l2:=hlt (k,true) hk;simp only[frm,cy8,if_false,if_true] at l1 l2;rw[z3u,z9b (a:=(eg E k).2.1) _ cd9 (da8.2 l2) (fun x _ hx=>if_neg (fun q=>hx q.symm)),z9b (a:=(eg E k).1) _ cd9 (da8.2 l1) (fun x _ hx=>if_neg (fun q=>hx q.symm))];simp
  have a2:sm (List.range N) (fun n=>ex E fl n - (if n=src then ex E fl src else 0))=ex E fl (fi t):=by
   have:=S.fiN t htF
   rw[z9b (a:=fi t) _ cd9 (da8.2 (by omega)) (fun x hx hne=>by
    split
    ·rename_i q;rw[q];omega
    ·rename_i q;rw[hc x (da8.1 hx) q hne];rfl),if_neg (by omega)]
   omega
  rw[z3u,a1,z9b (a:=src) _ cd9 (da8.2 (by omega)) (fun x _ hx=>if_neg hx),if_pos rfl] at a2;have a3:=j9a E fl src
  have a4:sm (List.range E.length) (fun k=>if (eg E k).2.1=src then fl k else 0)=0:=sm_zero' fun k hk=>if_neg (fun q=>by
   rcases S.ty k (rng k hk) with ⟨s',hs',e⟩|⟨s',y',hs',hy',ht,e⟩|⟨y',hy',hzy,e⟩
   ·have:=S.ndN _ hs';rw[e] at q;simp only at q;omega
   ·have:=S.fiN _ hy';rw[e] at q;simp only at q;omega
   ·have:=S.fiN _ hy';rw[e] at q;simp only at q;omega)
  have a5:=j7r (l:=List.range E.length) (f:=fun k=>if (eg E k).1=src then fl k else 0) (fun x hx=>by split;exact h0 x (rng x hx);exact db9 _) (da8.2 hk);simp only[e,if_true] at a5;have a6:=j9a E fl (fi t);rw[<-S.inE htF hzt] at a6;have a7:0<=sm (List.range E.length) (fun k=>if (eg E k).1=fi t then fl k else 0):=q2z fun x hx=>by split;exact h0 x (rng x hx);exact db9 _
  have a8:sm Ls (fun s=>vE E fl nd fi s t)<=sm Ls (fun _=>1):=j6r fun s hs=>by
   have g2:=j7r (fun y hy=>U.v0 s hs y hy) htF;have g3:=U.sum s hs;have g4:=U.u1 s hs;omega
  have a9:∀l:List σ,sm l (fun _=>(1:Int))=(l.length:Int):=by
   intro l
   induction l with
   |nil=>rfl
   |cons x l ih=>rw[q5o,ih,cj8];omega
  rw[a9] at a8;omega
 have fw:∀(k a b:Nat) (c:Int),k<E.length->eg E k=(a,b,c)->a<N->fl k<c->0<=lvl lev a->0<=lvl lev b:=by
  intro k a b c hk e ha hl h;have:=L.done a ha h (by simp) (k,false) hk (by simp[frm,e]) (by simp[lft,e];omega)
  simpa[tow,e] using this
 have bw:∀(k a b:Nat) (c:Int),k<E.length->eg E k=(a,b,c)->b<N->0<fl k->0<=lvl lev b->0<=lvl lev a:=by
  intro k a b c hk e hb hl h;have:=L.done b hb h (by simp) (k,true) hk (by simp[frm,e]) (by simp[lft];omega)
  simpa[tow,e] using this
 refine⟨fun f hf hz=>?_,by simpa using hv,fun s hs hS hu=>?_,fun s hs hT y hy hty=>?_,fun s hs hT hu=>?_,fun s hs y hy hS hvp=>?_⟩
 ·obtain⟨k,hk,e⟩:=S.e5 f hf hz;have:=fl3 k f hk hf e;have q:=fw k _ _ _ hk e (by omega) (by unfold BIG;omega) (by rw[L.src];omega)
  simpa using q
 ·obtain⟨k,hk,e⟩:=S.e2 s hs;have hn:=S.ndN s hs;have hf:=S.fiN _ (S.inF s hs);have g1:=j7r (l:=List.range E.length) (f:=fun k=>if (eg E k).2.1=nd s then fl k else 0) (fun x hx=>by split;exact h0 x (rng x hx);exact db9 _) (da8.2 hk);simp only[e,if_true] at g1;unfold uE at hu;have q:=fw k _ _ _ hk e (by omega) (by omega) (by simpa using hS)
  simpa using q
 ·obtain⟨k,hk,e⟩:=S.e4 s y hs hy hty;have hn:=S.ndN s hs;have:=fl2 k s y hk hs hy e;have q:=fw k _ _ _ hk e (by omega) (by unfold BIG;omega) (by simpa using hT)
  simpa using q
 ·obtain⟨k,hk,e⟩:=S.e2 s hs;have hn:=S.ndN s hs
  have e1:uE E fl nd s=fl k:=by
   unfold uE
   rw[z9b (a:=k) _ cd9 (da8.2 hk) (fun k' hk' hne=>by
    rw[if_neg];intro q;exact hne (S.e3 k' k (da8.1 hk') hk (by rw[e];exact q) (by rw[q];exact(S.ndN s hs).1))),if_pos (by rw[e])]
  have q:=bw k _ _ _ hk e (by omega) (by omega) (by simpa using hT)
  simpa using q
 ·obtain⟨k,hk,h⟩:=w2r hvp;have hk:=rng k hk;split at h
  ·rename_i q;have hy':=S.fiN y hy;have:=bw k (eg E k).1 (eg E k).2.1 (eg E k).2.2 hk rfl (by rw[q.2];omega) h (by rw[q.2];simpa using hS);rw[q.1] at this
   simpa using this
  ·omega
theorem w9h.least(S:w9h N n E Ls Fs fn tos Z nd fi src)(htF:t∈Fs)(hp:∀d:Dt,d.1<E.length->0<=lft E fl d)(hlt:∀d:Dt,d.1<E.length->frm E d<N)(hc:w7u N E src (fi t) fl){lev:List Int}(L:j5v N E fl src lev []){A:φ->Bool}{T:σ->Bool}
  (C:UCl Ls Fs fn tos Z t (uE E fl nd) (vE E fl nd fi) A T):(∀f,f∈Fs->0<=lvl lev (fi f)->A f=true)/\∀s,s∈Ls->0<=lvl lev (nd s)->T s=true:=by
 have U:=S.uv htF hp hc;have h0:∀k,k<E.length->0<=fl k:=fun k hk=>by have:=hp (k,true) hk;simpa[lft] using this
 have hsr:=S.srcN;have hns:=S.nsrc;have rng:∀(k:Nat),k∈List.range E.length->k<E.length:=fun k hk=>da8.1 hk
 have key:∀(q:Nat),(∀f,f∈Fs->lvl lev (fi f)=q->A f=true)/\∀s,s∈Ls->lvl lev (nd s)=q->T s=true:=by
  intro q
  induction q using Nat.strongRecOn with
  |ind q ih=>
   constructor
   ·intro f hf hq;have hn:=S.fiN f hf;obtain⟨⟨k,b⟩,h1,h2,h3,h4,h5⟩:=L.pre (fi f) (by omega) (by omega) (by omega);cases b
    ·simp only[tow,frm,lft,cy8,if_false] at h2 h3 h4 h5;rcases S.ty k h1 with ⟨s',hs',e⟩|⟨s',y',hs',hy',ht,e⟩|⟨y',hy',hzy,e⟩
     ·have:=S.ndN _ hs';rw[e] at h2;simp only at h2;omega
     ·rw[e] at h2 h4 h5;simp only at h2 h4 h5;rw[<-S.fiI _ _ hy' hf h2];exact C.b s' hs' ((ih (lvl lev (nd s')).toNat (by omega)).2 s' hs' (by omega)) y' hy' ht
     ·rw[e] at h2;simp only at h2;rw[<-S.fiI _ _ hy' hf h2];exact C.z y' hy' hzy
    ·simp only[tow,frm,lft,if_true] at h2 h3 h4 h5;rcases S.ty k h1 with ⟨s',hs',e⟩|⟨s',y',hs',hy',ht,e⟩|⟨y',hy',hzy,e⟩
     ·rw[e] at h2 h4 h5;simp only at h2 h4 h5;have hT:=(ih (lvl lev (nd s')).toNat (by omega)).2 s' hs' (by omega);rw[<-S.fiI _ _ (S.inF s' hs') hf h2];have g1:=j7r (l:=List.range E.length) (f:=fun k=>if (eg E k).2.1=nd s' then fl k else 0) (fun x hx=>by split;exact h0 x (rng x hx);exact db9 _) (da8.2 h1);simp only[e,if_true] at g1;have g2:=U.u1 s' hs';unfold uE at g2;exact C.c s' hs' hT (by unfold uE;omega)
     ·have:=S.ndN _ hs';rw[e] at h2;simp only at h2;omega
     ·rw[e] at h2;simp only at h2;omega
   ·intro s hs hq;have hn:=S.ndN s hs;obtain⟨⟨k,b⟩,h1,h2,h3,h4,h5⟩:=L.pre (nd s) (by omega) (by omega) (by omega);cases b
    ·simp only[tow,frm,lft,cy8,if_false] at h2 h3 h4 h5;rcases S.ty k h1 with ⟨s',hs',e⟩|⟨s',y',hs',hy',ht,e⟩|⟨y',hy',hzy,e⟩
     ·rw[e] at h2 h3 h4 h5;simp only at h2 h3 h4 h5;have:=S.ndI _ _ hs' hs h2;subst this;refine C.a s' hs' ((ih (lvl lev (fi (fn s'))).toNat (by omega)).1 _ (S.inF s' hs') (by omega)) ?_;unfold uE
      rw[z9b (a:=k) _ cd9 (da8.2 h1) (fun k' hk' hne=>by
       rw[if_neg];intro q;exact hne (S.e3 k' k (da8.1 hk') h1 (by rw[e];exact q) (by rw[q];exact hn.1))),if_pos (by rw[e])]
      have:=h0 k h1;omega
     ·have:=S.fiN _ hy';rw[e] at h2;simp only at h2;omega
     ·have:=S.fiN _ hy';rw[e] at h2;simp only at h2;omega
    ·simp only[tow,frm,lft,if_true] at h2 h3 h4 h5;rcases S.ty k h1 with ⟨s',hs',e⟩|⟨s',y',hs',hy',ht,e⟩|⟨y',hy',hzy,e⟩
     ·have:=S.fiN _ (S.inF s' hs');rw[e] at h2;simp only at h2;omega
     ·rw[e] at h2 h4 h5;simp only at h2 h4 h5;have:=S.ndI _ _ hs' hs h2;subst this;have hA:=(ih (lvl lev (fi y')).toNat (by omega)).1 y' hy' (by omega);refine C.d s' hs' y' hy' hA ?_;have g1:=j7r (l:=List.range E.length) (f:=fun k=>if (eg E k).1=nd s'/\(eg E k).2.1=fi y' then fl k else 0) (fun x hx=>by split;exact h0 x (rng x hx);exact db9 _) (da8.2 h1);simp only[e,and_self,if_true] at g1;unfold vE;omega
     ·rw[e] at h2;simp only at h2;omega
 exact⟨fun f hf h=>(key (lvl lev (fi f)).toNat).1 f hf (by omega),fun s hs h=>(key (lvl lev (nd s)).toNat).2 s hs (by omega)⟩
end
def slt(s t:q1b):Bool:=if Op.bytesLess s.Func t.Func=true then true else if (s.Func==t.Func)=true then decide (s.Call<t.Call) else false
theorem w7z(s:q1b):slt s s=false:=by
 unfold slt;rw[q5s];simp
def LK(g:q4c)(fs:List Tx)(x:q8e):List q1a:=lks g (onF fs) x.Name 0 x.Calls
def j2n(g:q4c)(fs:List Tx):List q1a:=g.Funcs.flatMap (LK g fs)
noncomputable def rb(g:q4c)(fs:List Tx)(x:Tx):Bool:=@decide (RN g 1 (onF fs) false x) (Classical.propDecidable _)
theorem z7f{g:q4c}{fs:List Tx}{x:Tx}:rb g fs x=true<->RN g 1 (onF fs) false x:=by unfold rb;simp
noncomputable def rL(g:q4c)(fs:List Tx):List q1a:=(g.Funcs.filter (fun x=>rb g fs x.Name)).flatMap (LK g fs)
def z2z(g:q4c)(fs:List Tx)(s:q1b)(y:Tx):Prop:=∃l,l∈j2n g fs/\l.site=s/\∃a,a∈l.aims/\a.to=y
theorem v1k(g:q4c)(on:Tx->Bool)(nm:Tx)(l:q1a):∀(cs:List q4e) (k:Int),l∈lks g on nm k cs<->∃i:Nat,∃h:i<cs.length,on (cs[i]).Feature=true/\l=q1a.mk (q1b.mk nm (k+i)) (q6s g cs[i])
 |[],k=>by simp[lks]
 |c::cs,k=>by
  have ih:=v1k g on nm l cs (k+1);rw[lks];constructor
  ·intro h;by_cases hc:on c.Feature=true
   ·rw[if_pos hc] at h;rcases ax8.1 h with h|h
    ·exact⟨0,by simp,hc,by rw[h];simp⟩
    ·obtain⟨i,hi,h1,h2⟩:=ih.1 h;exact⟨i+1,by simpa using hi,by simpa using h1,by rw[h2];simp;omega⟩
   ·rw[if_neg hc] at h;obtain⟨i,hi,h1,h2⟩:=ih.1 h;exact⟨i+1,by simpa using hi,by simpa using h1,by rw[h2];simp;omega⟩
  ·rintro⟨i,hi,h1,h2⟩
   cases i with
   |zero=>
    simp only[ce8] at h1 h2;rw[if_pos h1,h2];simp
   |succ i=>
    have:l∈lks g on nm (k+1) cs:=ih.2 ⟨i,by simpa using hi,by simpa using h1,by rw[h2];simp;omega⟩;split
    ·exact cl9 _ this
    ·exact this
theorem w5b(g:q4c)(on:Tx->Bool)(nm:Tx):∀(cs:List q4e) (k:Int),((lks g on nm k cs).map (·.site)).Pairwise (fun a b=>slt a b=true)
 |[],k=>by simp[lks]
 |c::cs,k=>by
  have ih:=w5b g on nm cs (k+1);rw[lks];split
  ·rw[bw9,cf9];refine⟨fun s hs=>?_,ih⟩;obtain⟨l,hl,rfl⟩:=bk9.1 hs;obtain⟨i,hi,_,rfl⟩:=(v1k g on nm l cs (k+1)).1 hl;unfold slt;split
   ·rfl
   ·simp;omega
  ·exact ih
theorem z0z{g:q4c}{fs:List Tx}{x:q8e}{l:q1a}:l∈LK g fs x<->∃i:Nat,∃h:i<x.Calls.length,onF fs (x.Calls[i]).Feature=true/\l=q1a.mk (q1b.mk x.Name (i:Int)) (q6s g x.Calls[i]):=by
 unfold LK;rw[v1k];simp
theorem q4r{g:q4c}{fs:List Tx}{l:q1a}:l∈j2n g fs<->∃x,x∈g.Funcs/\∃i:Nat,∃h:i<x.Calls.length,onF fs (x.Calls[i]).Feature=true/\l=q1a.mk (q1b.mk x.Name (i:Int)) (q6s g x.Calls[i]):=by
 unfold j2n;rw[ac9];exact⟨fun⟨x,hx,h⟩=>⟨x,hx,z0z.1 h⟩,fun⟨x,hx,h⟩=>⟨x,hx,z0z.2 h⟩⟩
section
variable{g:q4c}{fs:List Tx}
theorem v9k(R:q5i g){x y:q8e}(hx:x∈g.Funcs)(hy:y∈g.Funcs)(h:x.Name=y.Name):x=y:=by
 have a:=z7c (f:=fun f:q8e=>f.Name) R.fsrt hx;have b:=z7c (f:=fun f:q8e=>f.Name) R.fsrt hy;simp only[h] at a;rw[a] at b
 simpa using b
theorem v1c(R:q5i g){l l':q1a}(hl:l∈j2n g fs)(hl':l'∈j2n g fs)(h:l.site=l'.site):l=l':=by
 obtain⟨x,hx,i,hi,_,rfl⟩:=q4r.1 hl;obtain⟨y,hy,j,hj,_,rfl⟩:=q4r.1 hl';simp only[q1b.mk.injEq] at h;have:=v9k R hx hy h.1;subst this;have:i=j:=by omega
 subst this;rfl
theorem z4q(R:q5i g):((j2n g fs).map (·.site)).Pairwise (fun a b=>slt a b=true):=by
 unfold j2n;rw[List.map_flatMap,List.pairwise_flatMap];refine⟨fun x hx=>w5b g (onF fs) x.Name x.Calls 0,R.fsrt.imp fun {x y} hxy=>?_⟩;intro a ha b hb;obtain⟨l,hl,rfl⟩:=bk9.1 ha;obtain⟨l',hl',rfl⟩:=bk9.1 hb;obtain⟨i,hi,_,rfl⟩:=z0z.1 hl;obtain⟨j,hj,_,rfl⟩:=z0z.1 hl';unfold slt;simp[hxy]
theorem z0o{l:List q1b}(h:l.Pairwise (fun a b=>slt a b=true)):l.Nodup:=by
 refine h.imp fun {a b} hab e=>?_;subst e;rw[w7z] at hab;simp at hab
theorem z5h{s:q1b}(hs:s∈(j2n g fs).map (·.site)):s.Func∈g.Funcs.map (·.Name):=by
 obtain⟨l,hl,rfl⟩:=bk9.1 hs;obtain⟨x,hx,i,hi,_,rfl⟩:=q4r.1 hl;exact bk9.2 ⟨x,hx,rfl⟩
theorem j4x:(rL g fs).map (·.site)=((j2n g fs).map (·.site)).filter (fun s=>rb g fs s.Func):=by
 have key:∀l:List q8e,((l.filter (fun x=>rb g fs x.Name)).flatMap (LK g fs)).map (·.site)=((l.flatMap (LK g fs)).map (·.site)).filter (fun s=>rb g fs s.Func):=by
  intro l
  induction l with
  |nil=>rfl
  |cons x l ih=>
   rw[List.flatMap_cons,dc9,List.filter_append,<-ih,ab9]
   have hf:∀s,s∈(LK g fs x).map (·.site)->s.Func=x.Name:=by
    intro s hs;obtain⟨l,hl,rfl⟩:=bk9.1 hs;obtain⟨i,hi,_,rfl⟩:=z0z.1 hl;rfl
   cases hb:rb g fs x.Name
   ·have e:((LK g fs x).map (·.site)).filter (fun s=>rb g fs s.Func)=[]:=List.filter_eq_nil_iff.2 (fun s hs=>by rw[hf s hs,hb];simp);rw[e];simp
   ·have e:((LK g fs x).map (·.site)).filter (fun s=>rb g fs s.Func)=(LK g fs x).map (·.site):=List.filter_eq_self.2 (fun s hs=>by rw[hf s hs,hb]);rw[e];simp
 exact key g.Funcs
theorem z4j(R:q5i g):(j2n g fs).length<=600000:=by
 have key:∀l:List q8e,(∀x,x∈l->x∈g.Funcs)->(l.flatMap (LK g fs)).length<=200*l.length:=by
  intro l
  induction l with
  |nil=>simp
  |cons x l ih=>
   intro h;have h1:=ih (fun y hy=>h y (cl9 _ hy));have h2:=j9s g (onF fs) x.Name x.Calls 0;have h3:=(R.f x (h x (by simp))).len;rw[List.flatMap_cons,bp8,cj8];unfold LK at h1 ⊢;omega
 have h1:=key g.Funcs (fun _ h=>h);have h2:=R.fl;unfold j2n;omega
theorem v8z(R:q5i g):(rL g fs).length<=600000:=by
 have h1:((rL g fs).map (·.site)).length<=((j2n g fs).map (·.site)).length:=by rw[j4x];exact ab8 _ _
 have h2:=z4j (fs:=fs) R;simp at h1;omega
theorem j5x{l:q1a}(h:l∈rL g fs):l∈j2n g fs:=by
 unfold rL at h;obtain⟨x,hx,h⟩:=ac9.1 h;exact ac9.2 ⟨x,(cm9.1 hx).1,h⟩
theorem z3n(R:q5i g){l:q1a}(hl:l∈j2n g fs){y:Tx}:z2z g fs l.site y<->∃a,a∈l.aims/\a.to=y:=by
 constructor
 ·rintro⟨l',h1,h2,h3⟩
  rw[<-v1c R h1 hl h2];exact h3
 ·intro h;exact⟨l,hl,rfl,h⟩
theorem w3v{s:q1b}(hr:rb g fs s.Func=true){y:Tx}(h:z2z g fs s y):rb g fs y=true:=by
 obtain⟨l,hl,rfl,a,ha,rfl⟩:=h;obtain⟨x,hx,i,hi,ho,rfl⟩:=q4r.1 hl;exact z7f.2 (.aim (z7f.1 hr) hx (bh8 hi) ho ha (fun h=>absurd rfl h))
theorem v9i(R:q5i g){s:q1b}{y:Tx}(h:z2z g fs s y):y∈g.Funcs.map (·.Name):=by
 obtain⟨l,hl,rfl,a,ha,rfl⟩:=h;obtain⟨x,hx,i,hi,ho,rfl⟩:=q4r.1 hl;have:=j8g R hx (bh8 hi) ha;obtain⟨f,hf,e⟩:=q7x.1 this;exact bk9.2 ⟨f,hf,e⟩
end
end Go.Proofs.YtcihpgamojpcnaaGreat
