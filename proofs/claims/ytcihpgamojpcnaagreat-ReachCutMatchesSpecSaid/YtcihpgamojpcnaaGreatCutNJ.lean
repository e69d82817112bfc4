/- Part of the proof: NG, NH, NP, Told, NQ, NI, NJ. -/
import Derived.Test.YtcihpgamojpcnaaGreatCutNF
import Derived.Test.YtcihpgamojpcnaaGreatCutYB
import Derived.Test.YtcihpgamojpcnaaGreatCutC6M
import Derived.KernelRfl
set_option linter.unusedSimpArgs false
set_option linter.unusedVariables false
namespace Go.Proofs.YtcihpgamojpcnaaGreat
open Go Go.Pv
abbrev LsG(g:q4c)(fs:List Tx):List q1b:=(j2n g fs).map (·.site)
abbrev FsG(g:q4c):List Tx:=g.Funcs.map (·.Name)
abbrev ZG(g:q4c):Tx->Prop:=fun f=>f∈g.Entries
def Res(g:q4c)(fs:List Tx)(t:Tx)(cut:List q1b):Prop:=
 ∃u v S T,UV (LsG g fs) (FsG g) (·.Func) (z2z g fs) (ZG g) t u v/\UCl (LsG g fs) (FsG g) (·.Func) (z2z g fs) (ZG g) t u v S T/\
  (∀A B,UCl (LsG g fs) (FsG g) (·.Func) (z2z g fs) (ZG g) t u v A B->(∀f,f∈FsG g->S f=true->A f=true)/\∀s,s∈LsG g fs->T s=true->B s=true)/\
  cut=(LsG g fs).filter (j9q (·.Func) S T)
theorem Res.uniq{g:q4c}{fs:List Tx}{t:Tx}{c c':List q1b}(h:Res g fs t c)(h':Res g fs t c'):c=c':=by
 obtain⟨u,v,S,T,U,C,L,rfl⟩:=h;obtain⟨u',v',S',T',U',C',L',rfl⟩:=h';have a:=L' S T (U.closed U' C C');have b:=L S' T' (U'.closed U C' C);refine af8 fun s hs=>?_;have hf:=U.inF s hs;unfold j9q
 have e1:S s.Func=S' s.Func:=by
  cases h1:S s.Func<;>cases h2:S' s.Func<;>first|rfl|skip
  ·have:=a.1 _ hf h2;rw[h1] at this;simp at this
  ·have:=b.1 _ hf h1;rw[h2] at this;simp at this
 have e2:T s=T' s:=by
  cases h1:T s<;>cases h2:T' s<;>first|rfl|skip
  ·have:=a.2 _ hs h2;rw[h1] at this;simp at this
  ·have:=b.2 _ hs h1;rw[h2] at this;simp at this
 rw[e1,e2]
structure SpOk(g:q4c)(how:Int)(fs:List Tx)(sp:q4f):Prop where
 fl:sp.funcs.length=g.Funcs.length
 f:∀i:Nat,∀h:i<g.Funcs.length,tru sp.funcs i<->RN g how (onF fs) false (g.Funcs[i]).Name
theorem j0x{g:q4c}{how:Int}{fs:List Tx}(F:Nat)(R:q5i g)(hh:how=1\/how=2)(hF:10000<=F):∃sp,M16 F (wOf g how fs) (-1)=some (some sp)/\SpOk g how fs sp:=by
 obtain⟨sp,s1,s2,s3,s4,s5⟩:=v9y (wok (F:=F) (by omega) R how fs) hF;refine⟨sp,s1,s2,fun i h=>?_⟩;rw[s4,<-v7z (F:=F) (by omega) R hh fs h];exact⟨fun q=>q.2,fun q=>⟨h,q⟩⟩
section
variable{g:q4c}{fs:List Tx}
theorem on_w(x:Tx):(q3b (wOf g 1 fs).on x).getD false=onF fs x:=v4o g 1 fs x
theorem j5b(F:Nat)(sp:q4f)(n20:Int)(x:q8e)(b:Bool)(hb:idx sp.funcs n20=some b)(k:List q1b->Option (List q1b×Bool×Int)):
  ∀(l:List q4e) (n31:Int) (acc:List q1b),acc.length+l.length<=1000000->v5f F (wOf g 1 fs) sp n20 x k l n31 acc=k (acc++if b=true then (lks g (onF fs) x.Name n31 l).map (·.site) else [])
 |[],n31,acc,h=>by cases b<;>simp[v5f,lks]
 |c::l,n31,acc,h=>by
  simp only[cj8] at h;rw[v5f,q9e,hb,cl8,lks];cases b with
  |false=>
   rw[if_neg (by simp)];refine(j5b F sp n20 x false hb k l _ _ (by omega)).trans ?_;simp
  |true=>
   rw[if_pos rfl,q9e,on_w];by_cases ho:onF fs c.Feature=true
   ·rw[if_pos ho,if_pos (by simp;omega)];refine(j5b F sp n20 x true hb k l _ _ (by simp;omega)).trans ?_;rw[if_pos ho];simp
   ·rw[if_neg ho];refine(j5b F sp n20 x true hb k l _ _ (by omega)).trans ?_;rw[if_neg ho]
theorem v2s(F:Nat)(R:q5i g){sp:q4f}(P:SpOk g 1 fs sp)(k:List q1b->Option (List q1b×Bool×Int)):
  ∀(l:List q8e) (i:Nat) (acc:List q1b),g.Funcs.drop i=l->acc.length+200*l.length<=1000000->v6f F (wOf g 1 fs) sp k l i acc=k (acc++((l.filter (fun x=>rb g fs x.Name)).flatMap (LK g fs)).map (·.site))
 |[],i,acc,hd,h=>by simp[v6f]
 |x::l,i,acc,hd,h=>by
  simp only[cj8] at h;obtain⟨hi,hx,hd'⟩:=z2e hd;have hxm:x∈g.Funcs:=by rw[<-hx];exact bh8 hi
  have hc:=(R.f x hxm).len
  have hb:idx sp.funcs (i:Int)=some (rb g fs x.Name):=by
   have hlt:i<sp.funcs.length:=by rw[P.fl];exact hi
   rw[q9l hlt];have:=P.f i hi;rw[hx] at this;unfold tru at this;rw[be8 hlt,bc8] at this;cases h1:rb g fs x.Name
   ·cases h2:sp.funcs[i]
    ·rfl
    ·have:=z7f.2 (this.1 h2);rw[h1] at this;simp at this
   ·rw[this.2 (z7f.1 h1)]
  rw[v6f,q9e,q9e,j5b F sp i x _ hb _ _ _ _ (by omega)];have hcast:((i:Int)+1)=((i+1:Nat):Int):=by omega
  have hl:=j9s g (onF fs) x.Name x.Calls 0;rw[hcast];refine(v2s F R P k l (i+1) _ hd' (by cases rb g fs x.Name<;>simp<;>omega)).trans ?_;rw[ab9];cases rb g fs x.Name
  ·simp
  ·simp[LK]
def fiG(g:q4c)(fs:List Tx)(x:Tx):Nat:=(fI (wOf g 1 fs) x).toNat
theorem v5a(R:q5i g){x:Tx}(hx:x∈FsG g):∃i:Nat,∃h:i<g.Funcs.length,(g.Funcs[i]).Name=x/\fI (wOf g 1 fs) x=i/\fiG g fs x=i:=by
 obtain⟨i,h,e⟩:=v3a (g:=g) (x:=x) (q7x.2 (by obtain⟨f,h1,h2⟩:=bk9.1 hx;exact⟨f,h1,h2⟩));have:=z1p R 1 fs h;rw[e] at this;exact⟨i,h,e,this,by unfold fiG;rw[this];rfl⟩
theorem y2o(R:q5i g){x y:Tx}(hx:x∈FsG g)(hy:y∈FsG g)(h:fiG g fs x=fiG g fs y):x=y:=by
 obtain⟨i,hi,e1,_,e2⟩:=v5a (fs:=fs) R hx;obtain⟨j,hj,e3,_,e4⟩:=v5a (fs:=fs) R hy;have:i=j:=by omega
 subst this;rw[<-e1,e3]
noncomputable abbrev SG(g:q4c)(fs:List Tx):List q1b:=(rL g fs).map (·.site)
noncomputable def ndG(g:q4c)(fs:List Tx)(s:q1b):Nat:=g.Funcs.length+(SG g fs).idxOf s
structure y2s(g:q4c)(fs:List Tx)(done:List q1a)(E:List Eg):Prop where
 mem:∀e,e∈E<->∃lk,lk∈done/\(e=(fiG g fs lk.site.Func,ndG g fs lk.site,1)\/∃y,y∈FsG g/\z2z g fs lk.site y/\e=(ndG g fs lk.site,fiG g fs y,BIG))
 pw:E.Pairwise (fun e e'=>g.Funcs.length<=e.2.1->e.2.1≠e'.2.1)
 low:∀e,e∈E->e.2.1<g.Funcs.length+done.length
 len:E.length<=501*done.length
theorem v0s(F:Nat)(d N:Nat)(hd:d<=1000000)(hn:g.Funcs.length<=3000)(hN:g.Funcs.length+d<N)(k:Gr->Option (List q1b×Bool×Int)):
  ∀(tl:List Int) (E:List Eg) (ps:Dt->Nat) (G:Gr),z1l N E ps (fun _=>0) G->E.length+tl.length<=1000000000->(∀v,v∈tl->∃i:Nat,i<g.Funcs.length/\v=i)->
   ∃ps' G',v6m F g d k tl G=k G'/\z1l N (E++tl.map (fun v=>(g.Funcs.length+d,v.toNat,BIG))) ps' (fun _=>0) G'
 |[],E,ps,G,I,hl,ht=>⟨ps,G,rfl,by simpa using I⟩
 |v::tl,E,ps,G,I,hl,ht=>by
  simp only[cj8] at hl;obtain⟨i,hi,rfl⟩:=ht v (by simp);obtain⟨ps',G',e,I'⟩:=w9g F I (by omega) hN (show i<N by omega) (by omega) (c:=BIG) (by decide) (by decide) ([]:List Int) ([]:List Int);obtain⟨ps2,G2,e2,I2⟩:=v0s F d N hd hn hN k tl _ ps' G' I' (by simp;omega) (fun v hv=>ht v (cl9 _ hv));refine⟨ps2,G2,?_,by simpa using I2⟩;rw[v6m];have hw:w64 (((g.Funcs.length:Nat):Int)+(d:Int))=((g.Funcs.length+d:Nat):Int):=by rw[q9r (by omega) (by omega)];omega
  rw[hw,e,cl8];exact e2
theorem v1s(F:Nat)(hF:1000<=F)(R:q5i g)(N:Nat)(hN:N=g.Funcs.length+(rL g fs).length+1)(k:Gr->Option (List q1b×Bool×Int)):
  ∀(l done:List q1a) (E:List Eg) (ps:Dt->Nat) (G:Gr),rL g fs=done++l->z1l N E ps (fun _=>0) G->y2s g fs done E->
   ∃E' ps' G',v4f F g (wOf g 1 fs) k (l.map (·.site)) (done.length:Int) G=k G'/\z1l N E' ps' (fun _=>0) G'/\y2s g fs (rL g fs) E'
 |[],done,E,ps,G,hr,I,J=>⟨E,ps,G,rfl,I,by rw[hr,aa8];exact J⟩
 |lk::l,done,E,ps,G,hr,I,J=>by
  have hlen:=v8z (fs:=fs) R;have hfl:=R.fl;have hdl:done.length<(rL g fs).length:=by rw[hr];simp
  have hmem:lk∈rL g fs:=by rw[hr];simp
  obtain⟨x,hx,i,hi,ho,elk⟩:=q4r.1 (j5x hmem);have hsn:lk.site.Func∈FsG g:=by rw[elk];exact bk9.2 ⟨x,hx,rfl⟩
  obtain⟨j,hj,ej,efI,efi⟩:=v5a (fs:=fs) R hsn;have exj:g.Funcs[j]=x:=v9k R (bh8 hj) hx (by rw[ej,elk]);have hnd:(SG g fs).Nodup:=by unfold SG;rw[j4x];exact(z0o (z4q R)).filter _
  have eS:SG g fs=done.map (·.site)++lk.site::l.map (·.site):=by unfold SG;rw[hr];simp
  have hid:(SG g fs).idxOf lk.site=done.length:=by
   rw[eS] at hnd ⊢
   rw[ad9,if_neg (fun q=>by
    have:=(cn9.1 hnd).2.2 _ q lk.site (by simp);exact this rfl)]
   simp
  have end_:ndG g fs lk.site=g.Funcs.length+done.length:=by unfold ndG;rw[hid]
  have hw:w64 (((g.Funcs.length:Nat):Int)+(done.length:Int))=((g.Funcs.length+done.length:Nat):Int):=by rw[q9r (by omega) (by omega)];omega
  have hEl:=J.len;obtain⟨ps1,G1,e1,I1⟩:=w9g F I (by omega) (show j<N by omega) (show g.Funcs.length+done.length<N by omega) (by omega) (c:=1) (by decide) (by decide) ([]:List Int) ([]:List Int);obtain⟨tl,e2,T⟩:=y8r F hF R 1 fs hx (bh8 hi);have hTl:=T.len;obtain⟨ps2,G2,e3,I2⟩:=v0s (g:=g) F done.length N (by omega) hfl (by omega) (fun l68=>jn (fun(l56:Gr)=>v4f F g (wOf g 1 fs) k (l.map (·.site)) ((done.length:Int)+1) l56) (fun k55=>k55 l68)) tl _ ps1 G1 I1 (by simp;omega) T.nat
  have J2:y2s g fs (done++[lk]) ((E++[(j,g.Funcs.length+done.length,(1:Int))])++tl.map (fun v=>(g.Funcs.length+done.length,v.toNat,BIG))):=by
   have htl:∀e,e∈tl.map (fun v=>((g.Funcs.length+done.length,v.toNat,BIG):Eg))<->∃y,y∈FsG g/\z2z g fs lk.site y/\e=(ndG g fs lk.site,fiG g fs y,BIG):=by
    intro e;rw[bk9];constructor
    ·rintro⟨v,hv,rfl⟩
     obtain⟨q,hq,rfl⟩:=T.nat v hv;have hqm:(g.Funcs[q]).Name∈FsG g:=bk9.2 ⟨_,bh8 hq,rfl⟩;refine⟨(g.Funcs[q]).Name,hqm,(z3n R (j5x hmem)).2 ?_,?_⟩
     ·rw[elk];exact(T.mem q hq).1 hv
     ·rw[end_];unfold fiG;rw[z1p R 1 fs hq]
    ·rintro⟨y,hy,hty,rfl⟩
     obtain⟨q,hq,eq1,eq2,eq3⟩:=v5a (fs:=fs) R hy;have:=(z3n R (j5x hmem)).1 hty;rw[elk] at this;refine⟨(q:Int),(T.mem q hq).2 (by rw[eq1];exact this),?_⟩;rw[end_,eq3];rfl
   have hlow:∀e,e∈tl.map (fun v=>((g.Funcs.length+done.length,v.toNat,BIG):Eg))->e.2.1<g.Funcs.length:=by
    intro e he;obtain⟨v,hv,rfl⟩:=bk9.1 he;obtain⟨q,hq,rfl⟩:=T.nat v hv;exact hq
   refine⟨fun e=>?_,?_,fun e he=>?_,by simp;omega⟩
   ·rw[cm8,cm8,J.mem,htl,bx9];constructor
    ·rintro((⟨lk',h1,h2⟩|h)|h)
     ·exact⟨lk',by simp[h1],h2⟩
     ·exact⟨lk,by simp,.inl (by rw[h,efi,end_])⟩
     ·exact⟨lk,by simp,.inr h⟩
    ·rintro⟨lk',h1,h2⟩
     rcases cm8.1 h1 with h1|h1
     ·exact .inl (.inl ⟨lk',h1,h2⟩)
     ·simp only[bx9] at h1;subst h1;rcases h2 with h2|h2
      ·exact .inl (.inr (by rw[h2,efi,end_]))
      ·exact .inr h2
   ·rw[cf8];refine⟨?_,?_,fun a ha b hb hn=>?_⟩
    ·rw[cf8];refine⟨J.pw,by simp,fun a ha b hb hn=>?_⟩;simp only[bx9] at hb;subst hb;have:=J.low a ha;simp only;omega
    ·refine cg9 (R:=fun _ _=>True) (fun {a b} ha hb _ hn=>?_) (List.pairwise_of_forall (fun _ _=>trivial));have:=hlow a ha;omega
    ·have:=hlow b hb;omega
   ·have hj2:(done++[lk]).length=done.length+1:=by simp
    rw[hj2];rcases cm8.1 he with he|he
    ·rcases cm8.1 he with he|he
     ·have:=J.low e he;omega
     ·simp only[bx9] at he;subst he;simp only;omega
    ·have:=hlow e he;omega
  obtain⟨E3,ps3,G3,e4,I3,J3⟩:=v1s F hF R N hN k l (done++[lk]) _ ps2 G2 (by rw[hr];simp) I2 J2;refine⟨E3,ps3,G3,?_,I3,J3⟩;have hfi:(q3b (wOf g 1 fs).funcs lk.site.Func).getD 0=(j:Int):=efI;have hsc:lk.site.Call=(i:Int):=by rw[elk]
  rw[bw9,v4f,q9e,hfi,hw,e1,cl8,q9l hj,cl8,exj,hsc,q9l hi,cl8,e2,cl8,q9e];have hcast:(((done++[lk]).length:Nat):Int)=(done.length:Int)+1:=by simp
  rw[hcast] at e4;exact e3.trans e4
end
section
variable{g:q4c}{fs:List Tx}
theorem v9r(F:Nat)(R:q5i g)(N m:Nat)(l15:List q1b)(hl:l15.length=m)(hm:m<=1000000)(hN:N=g.Funcs.length+m+1)(k:Gr->Option (List q1b×Bool×Int)):
  ∀(el:List Tx) (E:List Eg) (ps:Dt->Nat) (G:Gr),z1l N E ps (fun _=>0) G->E.length+el.length<=1000000000->(∀e,e∈el->e∈FsG g)->
   ∃ps' G',v3f F g (wOf g 1 fs) l15 k el G=k G'/\z1l N (E++el.map (fun e=>(g.Funcs.length+m,fiG g fs e,BIG))) ps' (fun _=>0) G'
 |[],E,ps,G,I,hl,ht=>⟨ps,G,rfl,by simpa using I⟩
 |x::el,E,ps,G,I,hb,ht=>by
  have hn:=R.fl;simp only[cj8] at hb;obtain⟨i,hi,e1,e2,e3⟩:=v5a (fs:=fs) R (ht x (by simp));obtain⟨ps',G',e,I'⟩:=w9g F I (by omega) (show g.Funcs.length+m<N by omega) (show i<N by omega) (by omega) (c:=BIG) (by decide) (by decide) ([]:List Int) ([]:List Int);obtain⟨ps2,G2,e4,I2⟩:=v9r F R N m l15 hl hm hN k el _ ps' G' I' (by simp;omega) (fun v hv=>ht v (cl9 _ hv));refine⟨ps2,G2,?_,by rw[bw9,e3];simpa using I2⟩;rw[v3f,hl];have hw:w64 (((g.Funcs.length:Nat):Int)+((m:Nat):Int))=((g.Funcs.length+m:Nat):Int):=by rw[q9r (by omega) (by omega)];omega
  have hfi:(q3b (wOf g 1 fs).funcs x).getD 0=(i:Int):=e2;rw[hw,hfi,e,cl8];exact e4
theorem z9h(R:q5i g):(FsG g).Nodup:=by
 have:=z7b (f:=fun x:q8e=>x.Name) R.fsrt;exact this.imp fun {a b} h=>z0h h
theorem v7r(R:q5i g):(SG g fs).Nodup:=by unfold SG;rw[j4x];exact(z0o (z4q R)).filter _
theorem y9y{s:q1b}(hs:s∈SG g fs):(SG g fs).idxOf s<(rL g fs).length:=by
 have:=cn8 hs
 simpa using this
theorem y0n{s s':q1b}(hs:s∈SG g fs)(hs':s'∈SG g fs)(h:ndG g fs s=ndG g fs s'):s=s':=by
 unfold ndG at h;have e1:=List.getElem_idxOf (cn8 hs);have e2:=List.getElem_idxOf (cn8 hs');have e:(SG g fs).idxOf s=(SG g fs).idxOf s':=by omega
 rw[<-e1,<-e2]
 congr 1
theorem w5n{E:List Eg}{k:Nat}(h:k<E.length):eg E k=E[k]:=by
 unfold eg;rw[be8 h];rfl
theorem y0c(R:q5i g){E:List Eg}(J:y2s g fs (rL g fs) E):
  w9h (g.Funcs.length+(rL g fs).length+1) g.Funcs.length (E++g.Entries.map (fun e=>(g.Funcs.length+(rL g fs).length,fiG g fs e,BIG))) (SG g fs) (FsG g) (·.Func) (z2z g fs) (ZG g) (ndG g fs) (fiG g fs) (g.Funcs.length+(rL g fs).length):=by
 have hfs:∀f,f∈FsG g->fiG g fs f<g.Funcs.length:=fun f hf=>by
  obtain⟨i,h,_,_,e⟩:=v5a (fs:=fs) R hf;omega
 have hSm:∀s,s∈SG g fs<->∃lk,lk∈rL g fs/\lk.site=s:=fun s=>by rw[bk9]
 have hinF:∀s,s∈SG g fs->s.Func∈FsG g:=fun s hs=>by
  obtain⟨lk,h,rfl⟩:=(hSm s).1 hs;exact z5h (bk9.2 ⟨lk,j5x h,rfl⟩)
 have hen:∀e,e∈g.Entries->e∈FsG g:=fun e he=>by
  obtain⟨f,h1,h2⟩:=q7x.1 (R.e e he);exact bk9.2 ⟨f,h1,h2⟩
 have hmem:∀e:Eg,e∈E++g.Entries.map (fun e=>((g.Funcs.length+(rL g fs).length,fiG g fs e,BIG):Eg)) ↔
   (∃lk,lk∈rL g fs/\(e=(fiG g fs lk.site.Func,ndG g fs lk.site,1)\/∃y,y∈FsG g/\z2z g fs lk.site y/\e=(ndG g fs lk.site,fiG g fs y,BIG)))\/∃y,y∈g.Entries/\e=(g.Funcs.length+(rL g fs).length,fiG g fs y,BIG):=by
  intro e;rw[cm8,J.mem,bk9];constructor
  ·rintro(h|⟨y,h1,h2⟩)
   ·exact .inl h
   ·exact .inr ⟨y,h1,h2.symm⟩
  ·rintro(h|⟨y,h1,h2⟩)
   ·exact .inl h
   ·exact .inr ⟨y,h1,h2.symm⟩
 have hex:∀e:Eg,e∈E++g.Entries.map (fun e=>((g.Funcs.length+(rL g fs).length,fiG g fs e,BIG):Eg))->∃k,k<(E++g.Entries.map (fun e=>((g.Funcs.length+(rL g fs).length,fiG g fs e,BIG):Eg))).length/\eg (E++g.Entries.map (fun e=>((g.Funcs.length+(rL g fs).length,fiG g fs e,BIG):Eg))) k=e:=by
  intro e he;obtain⟨k,hk,h⟩:=br8 he;exact⟨k,hk,by rw[w5n hk,h]⟩
 have hpw:(E++g.Entries.map (fun e=>((g.Funcs.length+(rL g fs).length,fiG g fs e,BIG):Eg))).Pairwise (fun e e'=>g.Funcs.length<=e.2.1->e.2.1≠e'.2.1):=by
  have hlow:∀e:Eg,e∈g.Entries.map (fun e=>((g.Funcs.length+(rL g fs).length,fiG g fs e,BIG):Eg))->e.2.1<g.Funcs.length:=by
   intro e he;obtain⟨y,hy,rfl⟩:=bk9.1 he;exact hfs y (hen y hy)
  rw[cf8];refine⟨J.pw,?_,fun a ha b hb hn=>?_⟩
  ·refine cg9 (R:=fun _ _=>True) (fun {a b} ha hb _ hn=>?_) (List.pairwise_of_forall (fun _ _=>trivial));have:=hlow a ha;omega
  ·have:=hlow b hb;omega
 refine⟨v7r R,z9h R,hinF,fun s hs=>?_,hfs,rfl,by omega,fun s s' hs hs' h=>y0n hs hs' h,fun f f' hf hf' h=>y2o R hf hf' h,fun k hk=>?_,fun s hs=>?_,fun k k' hk hk' he hn=>?_,fun s y hs hy ht=>?_,fun y hy hz=>?_⟩
 ·have:=y9y hs;unfold ndG;omega
 ·rw[w5n hk];rcases(hmem _).1 (bh8 hk) with ⟨lk,h1,h2|⟨y,h2,h3,h4⟩⟩|⟨y,h1,h2⟩
  ·exact .inl ⟨lk.site,(hSm _).2 ⟨lk,h1,rfl⟩,h2⟩
  ·exact .inr (.inl ⟨lk.site,y,(hSm _).2 ⟨lk,h1,rfl⟩,h2,h3,h4⟩)
  ·exact .inr (.inr ⟨y,hen y h1,h1,h2⟩)
 ·obtain⟨lk,h1,rfl⟩:=(hSm s).1 hs;exact hex _ ((hmem _).2 (.inl ⟨lk,h1,.inl rfl⟩))
 ·rw[w5n hk] at he hn;rw[w5n hk'] at he;rcases ar8 k k' with h|h|h
  ·exact absurd he (bb8.1 hpw k k' hk hk' h hn)
  ·exact h
  ·exact absurd he.symm (bb8.1 hpw k' k hk' hk h (by rw[<-he];exact hn))
 ·obtain⟨lk,h1,rfl⟩:=(hSm s).1 hs;exact hex _ ((hmem _).2 (.inl ⟨lk,h1,.inr ⟨y,hy,ht,rfl⟩⟩))
 ·exact hex _ ((hmem _).2 (.inr ⟨y,hz,rfl⟩))
theorem j4b(F:Nat)(R:q5i g)(N:Nat)(hN:N=g.Funcs.length+(rL g fs).length+1){lev:List Int}(hlev:lev.length=N)(y92:Gr×List Int×List Int)(hy:y92.2.1=lev)(k:List q1b->Option (List q1b×Bool×Int)):
  ∀(l:List q1b) (j:Nat) (acc:List q1b),(SG g fs).drop j=l->acc.length+l.length<=1000000->
   j5n F g (wOf g 1 fs) y92 k l j acc=k (acc++l.filter (j9q (·.Func) (fun f=>decide (0<=lvl lev (fiG g fs f))) (fun s=>decide (0<=lvl lev (ndG g fs s)))))
 |[],j,acc,hd,h=>by simp[j5n]
 |s::l,j,acc,hd,h=>by
  simp only[cj8] at h;have hfl:=R.fl;have hlen:=v8z (fs:=fs) R;obtain⟨hj,hs,hd'⟩:=z2e hd;have hmem:s∈SG g fs:=by rw[<-hs];exact bh8 hj
  have hjl:j<(rL g fs).length:=by simpa using hj
  have hsF:s.Func∈FsG g:=by
   obtain⟨lk,h,rfl⟩:=bk9.1 hmem;exact z5h (bk9.2 ⟨lk,j5x h,rfl⟩)
  obtain⟨i,hi,_,e2,e3⟩:=v5a (fs:=fs) R hsF
  have hid:(SG g fs).idxOf s=j:=by
   rw[<-hs];exact(v7r R).idxOf_getElem j hj
  have hnd:ndG g fs s=g.Funcs.length+j:=by unfold ndG;rw[hid]
  have hw:w64 (((g.Funcs.length:Nat):Int)+(j:Int))=((g.Funcs.length+j:Nat):Int):=by rw[q9r (by omega) (by omega)];omega
  have hcast:((j:Int)+1)=((j+1:Nat):Int):=by omega
  have hfi:(q3b (wOf g 1 fs).funcs s.Func).getD 0=(i:Int):=e2;rw[j5n,q9e,hfi,hy,z7l (by omega),cl8,hw,hcast,ab9]
  have hp:j9q (fun s:q1b=>s.Func) (fun f=>decide (0<=lvl lev (fiG g fs f))) (fun s=>decide (0<=lvl lev (ndG g fs s))) s=(decide (0<=lvl lev i)&&!decide (0<=lvl lev (g.Funcs.length+j))):=by
   show(decide (0<=lvl lev (fiG g fs s.Func))&&!decide (0<=lvl lev (ndG g fs s)))=_
   rw[e3,hnd]
  rw[hp];by_cases h1:0<=lvl lev i
  ·rw[if_pos (by simpa using h1),z7l (by omega),cl8,q9e];by_cases h2:lvl lev (g.Funcs.length+j)<0
   ·rw[if_pos (by simpa using h2),if_pos (by simp;omega)];refine(j4b F R N hN hlev y92 hy k l (j+1) _ hd' (by simp;omega)).trans ?_;rw[if_pos (by simp[h1];omega)];simp
   ·rw[if_neg (by simpa using h2)];refine(j4b F R N hN hlev y92 hy k l (j+1) _ hd' (by omega)).trans ?_;rw[if_neg (by simp[h1];omega)]
  ·rw[if_neg (by simpa using h1)];refine(j4b F R N hN hlev y92 hy k l (j+1) _ hd' (by omega)).trans ?_;rw[if_neg (by simp[h1])]
theorem y1o(R:q5i g){t:Tx}(ht:t∈FsG g):∃v,q3b (wOf g 1 fs).funcs t=some v:=by
 obtain⟨x,hx,rfl⟩:=bk9.1 ht;obtain⟨i,hi,rfl⟩:=br8 hx;have:=z5d (g.Funcs.map (·.Name)) [] 0 i (by simpa using hi) (z7b (f:=fun x:q8e=>x.Name) R.fsrt);rw[cg8] at this;exact⟨_,this⟩
noncomputable def j0b(g:q4c)(fs:List Tx)(t:Tx):Int:=if z4z g 1 fs≠0 then z4z g 1 fs else if (FsG g).contains t=true then 0 else 4
theorem y9r(F:Nat)(t:Tx)(hg:q3o g)(hfs:∀x,x∈fs->x.length<=maxLen)(hF:1000<=F):M15 F g 1 fs t=some (if j0b g fs t≠0 then (none,0,j0b g fs t) else (some (wOf g 1 fs),fI (wOf g 1 fs) t,0)):=by
 unfold M15 j0b;rw[w3u F g 1 fs hg hfs hF,cl8];by_cases h1:z4z g 1 fs=0
 ·have R:=(z1c h1).1;rw[if_neg (by simp[h1]),if_neg (by simp[h1]),cl8];by_cases h2:t∈FsG g
  ·obtain⟨v,hv⟩:=y1o (fs:=fs) R h2;have hc:(FsG g).contains t=true:=by simpa using h2
   rw[hc,hv];simp[fI,hv,h1]
  ·have hn:q3b (wOf g 1 fs).funcs t=none:=w6a h2
   have hc:(FsG g).contains t=false:=by
    cases h3:(FsG g).contains t
    ·rfl
    ·exact absurd (by simpa using h3) h2
   rw[hc,hn];simp[h1]
 ·simp[h1]
theorem y1a(F:Nat)(hF:1000000000000000000000000<=F)(t:Tx)(hg:q3o g)(hfs:∀x,x∈fs->x.length<=maxLen):
  (j0b g fs t≠0->M5 F g fs t=some ([],false,j0b g fs t))/\(j0b g fs t=0->t∈g.Entries->M5 F g fs t=some ([],false,0))/\(j0b g fs t=0->t ∉ g.Entries->∃cut,Res g fs t cut/\M5 F g fs t=some (cut,true,0)):=by
 have e0:=y9r F t hg hfs (by omega);refine⟨fun h=>?_,fun h ht=>?_,fun h ht=>?_⟩
 ·unfold M5;rw[e0,if_pos h,cl8,if_pos (by simpa using h)]
 ·unfold M5;rw[e0,if_neg (by simp[h]),cl8,if_neg (by simp),v7s,cl8,if_pos (by simpa using ht)]
 ·have hop:z4z g 1 fs=0/\t∈FsG g:=by
   unfold j0b at h;by_cases h1:z4z g 1 fs=0
   ·rw[if_neg (by simp[h1])] at h;split at h
    ·rename_i q;exact⟨h1,by simpa using q⟩
    ·simp at h
   ·rw[if_pos h1] at h;exact absurd h h1
  have R:=(z1c hop.1).1;have hfl:=R.fl;have hlen:=v8z (fs:=fs) R;obtain⟨sp,es,P⟩:=j0x (fs:=fs) F R (.inl rfl) (by omega);obtain⟨ti,hti,et1,et2,et3⟩:=v5a (fs:=fs) R hop.2;have hSl:(SG g fs).length=(rL g fs).length:=by simp
  have hel:g.Entries.length<=3000:=by
   have h1:=ck8 (l₂:=FsG g) (R.esrt.imp fun {a b} h=>z0h h) (fun e he=>by
    obtain⟨f,h1,h2⟩:=q7x.1 (R.e e he);exact bk9.2 ⟨f,h1,h2⟩)
   simp at h1;omega
  have hen:∀e,e∈g.Entries->e∈FsG g:=fun e he=>by
   obtain⟨f,h1,h2⟩:=q7x.1 (R.e e he);exact bk9.2 ⟨f,h1,h2⟩
  have I0:z1l (g.Funcs.length+(rL g fs).length+1) [] (fun _=>0) (fun _=>0) (List.replicate (g.Funcs.length+(rL g fs).length+1) ([]:List q6a)):=by
   refine⟨by simp,fun d hd=>by simp at hd,fun d hd=>by simp at hd,fun d hd=>by simp at hd,fun i p a ha=>?_,fun d d' hd=>by simp at hd,fun d hd=>by simp at hd,fun k hk=>by simp at hk,fun i row hr=>?_⟩
   ·unfold at2 at ha;rw[bt9] at ha;split at ha<;>simp at ha
   ·rw[bt9] at hr;split at hr
    ·simp only[bc8] at hr;subst hr;simp
    ·simp at hr
  have J0:y2s g fs [] []:=⟨fun e=>by simp,by simp,fun e he=>by simp at he,by simp⟩;have hwm:w64 (((g.Funcs.length:Nat):Int)+(((rL g fs).length:Nat):Int))=((g.Funcs.length+(rL g fs).length:Nat):Int):=by rw[q9r (by omega) (by omega)];omega
  have hwm1:w64 (((g.Funcs.length+(rL g fs).length:Nat):Int)+1)=((g.Funcs.length+(rL g fs).length+1:Nat):Int):=by rw[q9r (by omega) (by omega)];omega
  -- the net
  obtain⟨E3,ps3,G3,e3,I3,J3⟩:=v1s F (by omega) R _ rfl (fun(l49:Gr)=>jn (fun(l81:Gr)=>(M19 F (w64 (((g.Funcs.length:Nat):Int)+(((SG g fs).length:Nat):Int))) (ti:Int) l81 ([]:List Int) ([]:List Int)).bind fun y92=>jn (fun(l95:List q1b)=>some (l95,true,0)) (fun k94=>j5n F g (wOf g 1 fs) y92 k94 (SG g fs) 0 ([]:List q1b))) (fun k80=>v3f F g (wOf g 1 fs) (SG g fs) k80 g.Entries l49)) (rL g fs) [] [] _ _ (by simp) I0 J0;have hE3:=J3.len;obtain⟨ps5,G5,e5,I5⟩:=v9r (fs:=fs) F R _ (rL g fs).length (SG g fs) hSl (by omega) rfl (fun(l81:Gr)=>(M19 F (w64 (((g.Funcs.length:Nat):Int)+(((SG g fs).length:Nat):Int))) (ti:Int) l81 ([]:List Int) ([]:List Int)).bind fun y92=>jn (fun(l95:List q1b)=>some (l95,true,0)) (fun k94=>j5n F g (wOf g 1 fs) y92 k94 (SG g fs) 0 ([]:List q1b))) g.Entries E3 ps3 G3 I3 (by omega) hen;have S:=y0c R J3;have hEl:(E3++g.Entries.map (fun e=>((g.Funcs.length+(rL g fs).length,fiG g fs e,BIG):Eg))).length<=400000000:=by simp;omega
  obtain⟨G6,lev,nx6,fl,e6,I6,C6,L6,v6⟩:=y7b F (s:=g.Funcs.length+(rL g fs).length) (t:=ti) (by omega) (by omega) (by omega) (by omega) (by omega) (by omega) [] [] I5;rw[<-et3] at C6 v6;have U:=S.uv hop.2 I6.pos C6;have C:=S.closed hop.2 ht I6.pos I6.lt C6 L6 v6 (by omega);have hzr:∀f,f∈FsG g->ZG g f->rb g fs f=true:=fun f _ hz=>z7f.2 (.entry hz);have hU:=UV.more (Ls:=LsG g fs) (p:=fun s=>rb g fs s.Func) (by rw[<-j4x];exact U) (fun s hs=>z5h hs);have hC:=UCl.more (Ls:=LsG g fs) (p:=fun s=>rb g fs s.Func) (r:=rb g fs) (by rw[<-j4x];exact C) (fun s hs=>z5h hs) (fun s hs=>rfl) hzr (fun s hs hr y hy hty=>w3v hr hty);refine⟨(SG g fs).filter (j9q (·.Func) (fun f=>decide (0<=lvl lev (fiG g fs f))) (fun s=>decide (0<=lvl lev (ndG g fs s)))),⟨_,_,_,_,hU,hC,fun A B hAB=>?_,?_⟩,?_⟩
  ·have:=UCl.less hAB;rw[<-j4x] at this;have hl:=S.least hop.2 I6.pos I6.lt C6 L6 this;refine⟨fun f hf h=>hl.1 f hf ?_,fun s hs h=>?_⟩
   ·simp only[av8,decide_eq_true_eq] at h;exact h.1
   ·simp only[av8,decide_eq_true_eq] at h;exact hl.2 s (by unfold SG;rw[j4x];exact cm9.2 ⟨hs,h.2⟩) h.1
  ·unfold SG;rw[j4x,List.filter_filter];refine af8 fun s hs=>?_
   show((decide (0<=lvl lev (fiG g fs s.Func))&&!decide (0<=lvl lev (ndG g fs s)))&&rb g fs s.Func)=((decide (0<=lvl lev (fiG g fs s.Func))&&rb g fs s.Func)&&!(decide (0<=lvl lev (ndG g fs s))&&rb g fs s.Func))
   cases decide (0<=lvl lev (fiG g fs s.Func))<;>cases rb g fs s.Func<;>cases decide (0<=lvl lev (ndG g fs s))<;>rfl
  ·unfold M5;rw[e0,if_neg (by simp[h]),cl8,if_neg (by simp),v7s,cl8,if_neg (by simpa using ht),cl8,es,cl8];simp only[q9e,cl8];have hr:=v2s (fs:=fs) F R P;rw[show(0:Int)=((0:Nat):Int) from rfl];refine(hr _ g.Funcs 0 [] rfl (by simp;omega)).trans ?_;simp only[ac8];have hsg:((g.Funcs.filter (fun x=>rb g fs x.Name)).flatMap (LK g fs)).map (·.site)=SG g fs:=rfl;rw[hsg,hSl,hwm,hwm1,if_pos (by omega)];have hfit:fI (wOf g 1 fs) t=(ti:Int):=et2;rw[hfit];simp only[q9e,hSl,hwm] at e3 e5;refine e3.trans (e5.trans ?_);rw[e6,cl8];refine(j4b F R _ rfl L6.len _ rfl _ (SG g fs) 0 [] rfl (by simp;omega)).trans ?_;simp
end
set_option maxRecDepth 100000
def SrI(l:List q7d):Prop:=l.Pairwise fun a b=>Op.bytesLess a.Name b.Name=true
def SrT(l:List q6g):Prop:=l.Pairwise fun a b=>Op.bytesLess a.Name b.Name=true
theorem j9w{T:Type}(f:T->Tx){cmp:T->T->Option Int}(hc:∀x y,∃c,cmp x y=some c/\decide (c<0)=Op.bytesLess (f x) (f y)){l:List T}(hs:l.Pairwise fun a b=>Op.bytesLess (f a) (f b)=true)(hl:l.length<4611686018427387904):y1e cmp l=some l:=by
 have hlt:∀x y,q1v cmp x y=Op.bytesLess (f x) (f y):=fun x y=>by
  obtain⟨c,e,h⟩:=hc x y;unfold q1v;rw[e];exact h
 have h1:w9q cmp l=true:=by
  unfold w9q;refine aw9.2 fun x _=>?_;rw[av8];refine⟨by rw[hlt,q5s];rfl,aw9.2 fun y _=>?_⟩;rw[av8];refine⟨by obtain⟨c,e,_⟩:=hc x y;rw[e];rfl,aw9.2 fun z _=>?_⟩;rw[hlt,hlt,hlt];cases e1:Op.bytesLess (f x) (f y)<;>cases e2:Op.bytesLess (f y) (f z)
  ·rw[(SLt.ntr (lt:=fun a b=>Op.bytesLess a b) ⟨q5s,q0q,z8k⟩ e1 e2:Op.bytesLess (f x) (f z)=false)];rfl
  ·simp
  ·simp
  ·rw[q0q e1 e2];rfl
 have h2:w6n cmp l=true:=by
  rw[w5e];refine hs.imp fun {a b} h=>?_;rw[hlt,h];rfl
 have h3:(l.mergeSort fun x y=>!q1v cmp y x)=l:=by
  apply List.mergeSort_of_pairwise;refine hs.imp fun {a b} h=>?_;rw[hlt,q1y h];rfl
 have h4:w3t cmp l=true:=by
  have:=w0g (y1n h1);rw[h3] at this;exact this
 unfold y1e;rw[h1,h2,h3,h4,show Nat.blt l.length 4611686018427387904=true from by rw[Nat.blt_eq];exact hl];rfl
theorem M58_s(F:Nat){l:List q7d}(hs:SrI l)(hl:l.length<=100000)(hF:100002<=F):M58 F l=some l:=by
 unfold M58;refine j9w (fun x:q7d=>x.Name) (fun x y=>?_) hs (by omega);refine⟨_,by unfold M59 M24;simp only[cl8];rw[v7f];rfl,?_⟩;cases Op.bytesLess x.Name y.Name
 ·simp;split<;>decide
 ·simp
theorem M60_s(F:Nat){l:List q6g}(hs:SrT l)(hl:l.length<=100000)(hF:100002<=F):M60 F l=some l:=by
 unfold M60;refine j9w (fun x:q6g=>x.Name) (fun x y=>?_) hs (by omega);refine⟨_,by unfold M61 M27;simp only[cl8];rw[v7f];rfl,?_⟩;cases Op.bytesLess x.Name y.Name
 ·simp;split<;>decide
 ·simp
theorem y2d(F:Nat){l:List Tx}(h:l.length<=100000):M29 F l=some l:=by
 unfold M29;refine j8d ?_ (fun h0=>?_)
 ·rw[if_neg (by simp),if_pos (by simp;omega)];rfl
 ·rw[if_pos rfl,be9.mp h0]
theorem v4s(F:Nat)(k:List q7d->Option (List q7d)):∀(l acc:List q7d),(∀x,x∈l->x.Methods.length<=100000)->acc.length+l.length<=100000->z2y F k l acc=k (acc++l)
 |[],acc,_,_=>by rw[z2y,aa8]
 |x::l,acc,hm,hn=>by
  simp only[cj8] at hn;rw[z2y,M25,y2d F (hm x (by simp)),cl8,cl8,if_pos (by simp;omega),v4s F k l _ (fun y hy=>hm y (by simp[hy])) (by simp;omega)];simp
theorem M23_s(F:Nat){l:List q7d}(hs:SrI l)(hl:l.length<=100000)(hm:∀x,x∈l->x.Methods.length<=100000)(hF:100002<=F):M23 F l=some l:=by
 unfold M23;rw[q9e,v4s F _ l [] hm (by simp;omega),ac8,M58_s F hs hl hF,cl8,if_pos rfl]
theorem M62_s(F:Nat){l:List q3j}(h:l.length<=100000):M62 F l=some l:=by
 unfold M62;refine j8d ?_ (fun h0=>?_)
 ·rw[if_neg (by simp),if_pos (by simp;omega)];rfl
 ·rw[if_pos rfl,be9.mp h0]
theorem v3s(F:Nat)(k:List q6g->Option (List q6g)):∀(l acc:List q6g),(∀x,x∈l->x.Methods.length<=100000)->acc.length+l.length<=100000->z1y F k l acc=k (acc++l)
 |[],acc,_,_=>by rw[z1y,aa8]
 |x::l,acc,hm,hn=>by
  simp only[cj8] at hn;rw[z1y,M28,M62_s F (hm x (by simp)),cl8,cl8,if_pos (by simp;omega),v3s F k l _ (fun y hy=>hm y (by simp[hy])) (by simp;omega)];simp
theorem M26_s(F:Nat){l:List q6g}(hs:SrT l)(hl:l.length<=100000)(hm:∀x,x∈l->x.Methods.length<=100000)(hF:100002<=F):M26 F l=some l:=by
 unfold M26;rw[q9e,v3s F _ l [] hm (by simp;omega),ac8,M60_s F hs hl hF,cl8,if_pos rfl]
theorem dropI{α:Type}{a:List α}{n:Nat}{x:α}{l:List α}(h:a.drop n=x::l):idx a (n:Int)=some x/\a.drop (n+1)=l:=by
 have hn:n<a.length:=by
  apply Classical.byContradiction;intro hc;rw[ap9 (by omega)] at h;simp at h
 rw[ch9 hn] at h
 injection h with h1 h2
 exact⟨by rw[q9l hn,h1],h2⟩
abbrev z9t:=List (q1b×Bool)
abbrev emG:q4c:=q4c.mk ([]:List q7d) ([]:List q6g) ([]:List q8e) ([]:List B8)
def y0o(g:q4c)(x:Tx):Option q8e:=g.Funcs.find? fun f=>f.Name==x
def atE(g:q4c)(s:q1b):Int:=match y0o g s.Func with
 |none=>4
 |some f=>if s.Call<0 then 9 else if s.Call>=((f.Calls.length:Nat):Int) then 9 else 0
def swE(g:q4c):Option q1b->List q1b->Int
 |_,[]=>0
 |p,s::l=>if atE g s≠0 then atE g s else if p.elim false (fun q=>!slt q s)=true then 10 else swE g (some s) l
def pv(a:List q1b)(n:Nat):Option q1b:=if n=0 then none else a[n - 1]?
def v4w(m:z9t)(l:List q1b):z9t:=l.foldl (fun m x=>q0d m x true) m
theorem y0a{a:List q1b}{n:Nat}{x:q1b}{l:List q1b}(h:a.drop n=x::l):pv a (n+1)=some x:=by
 obtain⟨hn,h1,_⟩:=z2e h;unfold pv;rw[if_neg (by omega),Nat.add_sub_cancel,be8 hn,h1]
theorem M57_s(F:Nat)(a b:Int):M57 F a b=some (if a<b then -1 else if a>b then 1 else 0):=by
 unfold M57 M80;simp only[cl8,bne_self_eq_false,cy8,if_false];by_cases h:a<b
 ·rw[z0n h,if_pos h]
 ·rw[z7o h,if_neg h];by_cases h2:a>b
  ·rw[z0n h2,if_pos h2]
  ·rw[z7o h2,if_neg h2]
theorem M55_s(F:Nat)(a b:Int):M55 F [a,b]=some (if a≠0 then a else if b≠0 then b else 0):=by
 unfold M55;simp only[q9e,j4q];by_cases h:a=0
 ·by_cases h2:b=0
  ·simp[h,h2]
  ·simp[h,h2]
 ·simp[h]
theorem M22_s(F:Nat)(s t:q1b):∃c,M22 F s t=some c/\decide (c>=0) = !slt s t:=by
 unfold M22;rw[v7f,cl8,M57_s,cl8,M55_s,cl8];refine⟨_,rfl,?_⟩;unfold slt;by_cases h:Op.bytesLess s.Func t.Func=true
 ·simp[h]
 ·by_cases h2:s.Func=t.Func
  ·rw[h2] at h ⊢;by_cases h3:s.Call<t.Call
   ·simp[h,h3]
   ·by_cases h4:s.Call>t.Call
    ·simp[h,h3,h4]
    ·simp[h,h3,h4]
  ·simp[h,h2]
theorem y5b(g:q4c)(R:q5i g)(x:Tx):(q3b (j2y [] 0 (g.Funcs.map (·.Name))) x=none/\y0o g x=none)\/∃(i:Nat) (f:q8e),q3b (j2y [] 0 (g.Funcs.map (·.Name))) x=some (i:Int)/\idx g.Funcs (i:Int)=some f/\y0o g x=some f:=by
 cases h:y0o g x with
 |none=>
  left
  refine⟨?_,rfl⟩;rw[z8i]
  ·rfl
  ·intro hm;obtain⟨f,hf,hx⟩:=bk9.1 hm;have:=af9.1 h f hf;simp[hx] at this
 |some f=>
  right
  have h1:=List.find?_some h;have h2:=List.mem_of_find?_eq_some h;obtain⟨i,hi,he⟩:=br8 h2;have hi':i<(g.Funcs.map (·.Name)).length:=by simpa using hi
  have h3:=z5d (g.Funcs.map (·.Name)) [] 0 i hi' (ci8.2 R.fsrt)
  have h4:(g.Funcs.map (·.Name))[i]=x:=by
   rw[cg8,he];simpa using h1
  rw[h4,Int.zero_add] at h3;exact⟨i,f,h3,by rw[q9l hi,he],rfl⟩
theorem w4h(F:Nat)(g:q4c)(R:q5i g)(a:List q1b)(ha:a.length<=maxLen)(k:z9t->Option (q4c×Int)):∀(l:List q1b) (n:Nat) (m:z9t),a.drop n=l->v4e F g a (wOf g 1 []) k l n m=if swE g (pv a n) l≠0 then some (emG,swE g (pv a n) l) else k (v4w m l)
 |[],n,m,_=>by rw[v4e];simp[swE,v4w]
 |s::l,n,m,h=>by
  obtain⟨hn,h1,h2⟩:=z2e h;have ih:=w4h F g R a ha k l (n+1) (q0d m s true) h2;rw[y0a h,show((n+1:Nat):Int)=(n:Int)+1 from rfl] at ih;rw[v4e];simp only[q9e];rw[ih,show(wOf g 1 []).funcs=j2y [] 0 (g.Funcs.map (·.Name)) from rfl,swE];rcases y5b g R s.Func with ⟨e1,e2⟩|⟨i,f,e1,e2,e3⟩
  ·have h3:atE g s=4:=by unfold atE;rw[e2]
   rw[e1];simp[h3,emG]
  ·rw[e1];simp only[Option.isSome_some,ci9,cy8,if_false,ck9,e2,cl8];by_cases h4:s.Call<0
   ·have h3:atE g s=9:=by unfold atE;rw[e3];simp[h4]
    rw[z0n h4];simp[h3,emG]
   ·rw[z7o h4];by_cases h5:s.Call>=((f.Calls.length:Nat):Int)
    ·have h3:atE g s=9:=by unfold atE;rw[e3];simp only;rw[if_neg h4,if_pos h5]
     rw[z0n h5];simp[h3,emG]
    ·have h3:atE g s=0:=by unfold atE;rw[e3];simp only;rw[if_neg h4,if_neg h5]
     rw[z7o h5];simp only[h3,ne_eq,not_true_eq_false,if_false];by_cases h6:n=0
     ·subst h6;rw[z7o (by omega)];simp[pv,v4w]
     ·obtain⟨h7,h8⟩:=j2s hn h6 ha;obtain⟨c,hc,hd⟩:=M22_s F a[n - 1] s;rw[z0n (by omega),h8,cl8,hc,cl8,hd];have e:pv a n=some a[n - 1]:=by unfold pv;rw[if_neg h6,be8 h7]
      rw[e];simp only[Option.elim];have h8:slt a[n - 1] s=true\/slt a[n - 1] s=false:=by cases slt a[n - 1] s<;>simp
      rcases h8 with h7|h7<;>simp[h7,v4w,emG]
theorem pig:∀(a b:List Tx),a.Pairwise (fun a b=>Op.bytesLess a b=true)->(∀x,x∈a->x∈b)->a.length<=b.length
 |[],b,_,_=>by simp
 |x::a,b,hp,h=>by
  have hp:=cf9.1 hp;have hx:x∈b:=h x (by simp);have ih:=pig a (b.erase x) hp.2 (fun y hy=>(List.mem_erase_of_ne (z0h (hp.1 y hy)).symm).2 (h y (by simp[hy])));rw[List.length_erase_of_mem hx] at ih;have:=List.length_pos_of_mem hx;simp only[cj8];omega
def z8j(m:z9t)(x:Tx):Int->List q4e->List q4e
 |_,[]=>[]
 |n,c::l=>if (!((q3b m (q1b.mk x n)).getD false))=true then c::z8j m x (n+1) l else z8j m x (n+1) l
def w1t(m:z9t)(x:q8e):q8e:=q8e.mk x.Name x.Component (z8j m x.Name 0 x.Calls) x.Makes
theorem v5m(F:Nat)(m:z9t)(x:q8e)(k:List q4e->Option (q4c×Int)):∀(l:List q4e) (n:Int) (acc:List q4e),acc.length+l.length<=100000->v2e F m x k l n acc=k (acc++z8j m x.Name n l)
 |[],n,acc,_=>by rw[v2e,z8j,aa8]
 |c::l,n,acc,h=>by
  simp only[cj8] at h;rw[v2e];simp only[q9e];rw[z8j];by_cases h1:(!((q3b m (q1b.mk x.Name n)).getD false))=true
  ·rw[if_pos h1,if_pos h1,if_pos (by simp;omega),v5m F m x k l (n+1) _ (by simp;omega)];simp
  ·rw[if_neg h1,if_neg h1,v5m F m x k l (n+1) _ (by omega)]
theorem w3h(F:Nat)(m:z9t)(k:List q8e->Option (q4c×Int)):∀(l acc:List q8e),(∀x,x∈l->x.Calls.length<=200/\x.Makes.length<=100000)->acc.length+l.length<=100000->v3e F m k l acc=k (acc++l.map (w1t m))
 |[],acc,_,_=>by rw[v3e,av9,aa8]
 |x::l,acc,hx,h=>by
  simp only[cj8] at h;have h1:=hx x (by simp);rw[v3e];simp only[q9e];rw[y2d F h1.2,cl8,v5m F m x _ x.Calls 0 [] (by simp;omega),if_pos (by simp;omega),w3h F m k l _ (fun y hy=>hx y (by simp[hy])) (by simp;omega)];simp[w1t]
theorem w4v:M8 1000000000000000000000000=some true:=by kernel_rfl
def WoG(g:q4c)(a:List q1b):q4c:=q4c.mk g.Ifaces g.Types (g.Funcs.map (w1t (v4w [] a))) g.Entries
theorem j5r(s:q1b):∀(a:List q1b) (m:z9t),(q3b (v4w m a) s).getD false=(decide (s∈a)||(q3b m s).getD false)
 |[],m=>by simp[v4w]
 |x::a,m=>by
  have:=j5r s a (q0d m x true);unfold v4w at this ⊢;rw[List.foldl_cons,this,q8g];by_cases e:x=s
  ·subst e;simp
  ·rw[if_neg e];have:s∈x::a<->s∈a:=by rw[ax8];exact⟨fun q=>q.resolve_left (fun q'=>e q'.symm),.inr⟩
   simp only[this]
theorem z5o(m:z9t)(x:Tx)(c:q4e):∀(l:List q4e) (n:Int),c∈z8j m x n l<->∃i:Nat,∃h:i<l.length,l[i]=c/\(q3b m (q1b.mk x (n+i))).getD false=false
 |[],n=>by simp[z8j]
 |d::l,n=>by
  have ih:=z5o m x c l (n+1);have sh:∀i:Nat,n+1+(i:Int)=n+((i+1:Nat):Int):=fun i=>by omega
  rw[z8j];cases h:(q3b m (q1b.mk x n)).getD false
  ·rw[if_pos (by simp),ax8,ih];constructor
   ·rintro(e|⟨i,hi,h1,h2⟩)
    ·exact⟨0,by simp,by simp[e],by simpa using h⟩
    ·exact⟨i+1,by simpa using hi,by simpa using h1,by rw[<-sh];exact h2⟩
   ·rintro⟨i,hi,h1,h2⟩
    cases i with
    |zero=>exact .inl (by simpa using h1.symm)
    |succ i=>exact .inr ⟨i,by simpa using hi,by simpa using h1,by rw[sh];exact h2⟩
  ·rw[if_neg (by simp),ih];constructor
   ·rintro⟨i,hi,h1,h2⟩
    exact⟨i+1,by simpa using hi,by simpa using h1,by rw[<-sh];exact h2⟩
   ·rintro⟨i,hi,h1,h2⟩
    cases i with
    |zero=>simp only[Int.natCast_zero,Int.add_zero] at h2;rw[h] at h2;simp at h2
    |succ i=>exact⟨i,by simpa using hi,by simpa using h1,by rw[sh];exact h2⟩
theorem j7e(m:z9t)(x:Tx):∀(l:List q4e) (n:Int),(z8j m x n l).length<=l.length
 |[],n=>by simp[z8j]
 |d::l,n=>by
  have ih:=j7e m x l (n+1);rw[z8j];split<;>simp<;>omega
theorem j4z(m:z9t)(x:Tx){c:q4e}{l:List q4e}{n:Int}(h:c∈z8j m x n l):c∈l:=by
 obtain⟨i,hi,rfl,_⟩:=(z5o m x c l n).1 h;exact bh8 hi
theorem v5l{fs:Tx->Bool}{is:Tx->Option (List Tx)}{lo:Bool}:∀{l:List q4e},csE fs is lo l=0<->∀c,c∈l->clE fs is lo c=0
 |[]=>by simp[csE]
 |c::l=>by
  rw[csE];by_cases h:clE fs is lo c=0
  ·rw[if_neg (by simp[h]),v5l];constructor
   ·intro q d hd;rcases ax8.1 hd with e|e
    ·rw[e];exact h
    ·exact q d e
   ·intro q d hd;exact q d (cl9 _ hd)
  ·rw[if_pos h];exact⟨fun q=>absurd q h,fun q=>absurd (q c (by simp)) h⟩
theorem w3d{fs ts:Tx->Bool}{is:Tx->Option (List Tx)}(m:z9t):∀(l:List q8e) (p:Option Tx),fnE fs ts is false p l=0->fnE fs ts is false p (l.map (w1t m))=0
 |[],p,h=>rfl
 |x::l,p,h=>by
  rw[fnE] at h;rw[bw9,fnE];have hk:=j7e m x.Name x.Calls 0;split at h
  ·rename_i q;exact absurd h q
  rename_i h1;split at h
  ·simp at h
  rename_i h2;split at h
  ·simp at h
  rename_i h3;split at h
  ·rename_i q;exact absurd h q
  rename_i h4;split at h
  ·rename_i q;exact absurd h q
  rename_i h5;have h4':csE fs is false (z8j m x.Name 0 x.Calls)=0:=v5l.2 fun c hc=>v5l.1 (by simpa using h4) c (j4z m x.Name hc)
  show(if nme x.Name p≠0 then _ else if nm x.Component=false then _ else if 200<(z8j m x.Name 0 x.Calls).length then _ else if csE fs is false (z8j m x.Name 0 x.Calls)≠0 then _ else if lsE ts false none x.Makes≠0 then _ else fnE fs ts is false (some x.Name) (l.map (w1t m)))=0
  rw[if_neg h1,if_neg h2,if_neg (by omega),if_neg (by simpa using h4'),if_neg h5];exact w3d m l (some x.Name) h
theorem FsG_W(g:q4c)(a:List q1b):FsG (WoG g a)=FsG g:=by
 show((g.Funcs.map (w1t (v4w [] a))).map (·.Name))=g.Funcs.map (·.Name)
 rw[List.map_map];rfl
theorem chk_W{g:q4c}(a:List q1b)(h:chk false g=0):chk false (WoG g a)=0:=by
 have hf:z8r (WoG g a)=z8r g:=by unfold z8r;have:=FsG_W g a;unfold FsG at this;rw[this]
 have ht:v7i (WoG g a)=v7i g:=rfl;have hi:v5w (WoG g a)=v5w g:=rfl;have hlen:(WoG g a).Funcs.length=g.Funcs.length:=by show(g.Funcs.map _).length=_;simp
 unfold chk at h ⊢;rw[hf,ht,hi,hlen];split at h
 ·simp at h
 rename_i h1;split at h
 ·simp at h
 rename_i h2;split at h
 ·simp at h
 rename_i h3;split at h
 ·rename_i q;exact absurd h q
 rename_i h4;split at h
 ·rename_i q;exact absurd h q
 rename_i h5;split at h
 ·rename_i q;exact absurd h q
 rename_i h6;have h6':=w3d (v4w [] a) g.Funcs none (by simpa using h6)
 show(if 200<g.Ifaces.length then _ else if 500<g.Types.length then _ else if 3000<g.Funcs.length then _ else if ifE none g.Ifaces≠0 then _ else if tyE (z8r g) false none g.Types≠0 then _ else if fnE (z8r g) (v7i g) (v5w g) false none (g.Funcs.map (w1t (v4w [] a)))≠0 then _ else lsE (z8r g) false none g.Entries)=0
 rw[if_neg h1,if_neg h2,if_neg h3,if_neg h4,if_neg h5,if_neg (by simpa using h6')];exact h
theorem ok_W{g:q4c}(a:List q1b)(h:q3o g):q3o (WoG g a):=by
 obtain⟨h1,h2,⟨h3,h4⟩,h5⟩:=h;refine⟨h1,h2,⟨fun x hx=>?_,by show(g.Funcs.map _).length<=_;simpa using h4⟩,h5⟩;obtain⟨y,hy,rfl⟩:=bk9.1 hx;obtain⟨k1,k2,⟨k3,k4⟩,k5⟩:=h3 y hy;exact⟨k1,k2,⟨fun c hc=>k3 c (j4z _ _ hc),cj9 (j7e _ _ _ _) k4⟩,k5⟩
def y8e(g:q4c)(a:List q1b):Int:=if chk false g≠0 then chk false g else swE g none a
theorem w0f{g:q4c}(R:q5i g):∀x,x∈g.Funcs->x.Calls.length<=200/\x.Makes.length<=100000:=fun x hx=>by
 refine⟨(R.f x hx).len,?_⟩
 have h1:=pig x.Makes (g.Types.map (·.Name)) (R.f x hx).msrt (fun t ht=>by
  have h2:=(R.f x hx).makes t ht
  simpa[v7i] using h2)
 have:=R.tl;simp at h1;omega
theorem j8b(F:Nat)(hF:200000<=F)(g:q4c)(a:List q1b)(hg:q3o g)(ha:a.length<=maxLen):M6 F g a=some (if y8e g a≠0 then (emG,y8e g a) else (WoG g a,0)):=by
 have hF:100002<=F:=by omega
 unfold y8e;by_cases h0:chk false g=0
 ·have R:=j1a h0;have hm:=w0f R
  have he:g.Entries.length<=100000:=by
   have h1:=pig g.Entries (g.Funcs.map (·.Name)) R.esrt (fun t ht=>by
    have h2:=R.e t ht
    simpa[z8r] using h2)
   have:=R.fl;simp at h1;omega
  have hfl:=R.fl;have hil:=R.il;have htl:=R.tl;rw[if_neg (show ¬chk false g≠0 by simp[h0])];unfold M6;rw[w7h F g hg,cl8,h0,if_neg (by simp),w4u F g 1 [] R (by omega),cl8];simp only[q9e];rw[cl8,show(0:Int)=((0:Nat):Int) from rfl,w4h F g R a ha _ a 0 [] rfl];rw[show pv a 0=none from rfl];by_cases h1:swE g none a=0
  ·rw[if_neg (by simp[h1]),if_neg (by simp[h1])];rw[M23_s F R.isrt (by omega) (fun x hx=>by have:=(R.i x hx).len;omega) hF,cl8];rw[M26_s F R.tsrt (by omega) (fun x hx=>by have:=(R.t x hx).len;omega) hF,cl8];rw[y2d F he,cl8,w3h F _ _ g.Funcs [] hm (by simp;omega)];rfl
  ·rw[if_pos h1,if_pos (show swE g none a≠((0:Nat):Int) from h1)]
 ·rw[if_pos h0,if_pos h0];unfold M6;rw[w7h F g hg,cl8,if_pos (by simpa using h0)]
theorem j3o(F:Nat)(hF:10000<=F)(g:q4c)(fs:List Tx)(hg:q3o g)(hfs:∀x,x∈fs->x.length<=maxLen)(h:z4z g 1 fs=0):∃r,M9 F g 1 fs=some (r,0)/\∀t,M10 F r t=some (rb g fs t):=by
 have R:=(z1c h).1;obtain⟨sp,e,P⟩:=j0x (fs:=fs) F R (.inl rfl) hF;refine⟨pick (fun x:q8e=>x.Name) g.Funcs sp.funcs,?_,fun t=>?_⟩
 ·unfold M9;rw[w3u F g 1 fs hg hfs (by omega),if_neg (by simp[h]),cl8,if_neg (by simp[h]),cl8,e,cl8,cl8,q9e]
  have:=j2d g.Funcs (fun x:q8e=>x.Name) R.fl (fun l14=>some (l14,(0:Int))) (fun l n o=>v4m F g (fun l14=>some (l14,(0:Int))) l n o) (fun n o=>rfl) (fun b l n o=>by
   rw[v4m];simp only[q9e];have hcast:((n:Int)+1)=((n+1:Nat):Int):=by omega
   rw[hcast]) sp.funcs 0 [] (by rw[P.fl];omega) (by simp)
  simpa using this
 ·rw[v7s]
  congr 1
  cases hb:rb g fs t
  ·cases hc:(pick (fun x:q8e=>x.Name) g.Funcs sp.funcs).contains t
   ·rfl
   ·have:=(j3s (fun x:q8e=>x.Name) t g.Funcs sp.funcs).1 (by simpa using hc);obtain⟨i,hi,h1,rfl⟩:=this;rw[z7f.2 ((P.f i hi).1 h1)] at hb;simp at hb
  ·have h1:=z7f.1 hb;have h2:=h1.names R;simp only[cy8,if_false] at h2;obtain⟨i,hi,h3⟩:=v3a h2;have:=(j3s (fun x:q8e=>x.Name) t g.Funcs sp.funcs).2 ⟨i,hi,(P.f i hi).2 (by rw[h3];exact h1),h3⟩
   simpa using this
section
variable{g:q4c}{fs:List Tx}{a:List q1b}
theorem y0q{P:Tx->Prop}(hz:∀e,e∈g.Entries->P e)(hc:∀s,s∈LsG g fs->s ∉ a->P s.Func->∀y,z2z g fs s y->P y){b:Bool}{y:Tx}(h:RN (WoG g a) 1 (onF fs) b y):b=false->P y:=by
 induction h with
 |entry h=>exact fun _=>hz _ h
 | @aim x c a' hf hx hcx ho ha hm ih1 ih2=>
  intro _;obtain⟨x0,hx0,rfl⟩:=bk9.1 hx;obtain⟨i,hi,rfl,hk⟩:=(z5o _ _ _ _ _).1 hcx;rw[j5r] at hk;have hl:q1a.mk (q1b.mk x0.Name (i:Int)) (q6s g x0.Calls[i])∈j2n g fs:=q4r.2 ⟨x0,hx0,i,hi,ho,rfl⟩;have hs:q1b.mk x0.Name (i:Int)∈LsG g fs:=bk9.2 ⟨_,hl,rfl⟩
  have hna:q1b.mk x0.Name (i:Int) ∉ a:=by
   intro q;simp[q] at hk
  exact hc _ hs hna (ih1 rfl) _ ⟨_,hl,rfl,a',ha,rfl⟩
 |mk hf hx ht=>intro h;simp at h
theorem RN_W{s:q1b}(hs:s∈LsG g fs)(hna:s ∉ a)(h:RN (WoG g a) 1 (onF fs) false s.Func){y:Tx}(ht:z2z g fs s y):RN (WoG g a) 1 (onF fs) false y:=by
 obtain⟨l,hl,rfl,b,hb,rfl⟩:=ht;obtain⟨x,hx,i,hi,ho,rfl⟩:=q4r.1 hl;refine .aim (x:=w1t (v4w [] a) x) (c:=x.Calls[i]) h (bk9.2 ⟨x,hx,rfl⟩) ((z5o _ _ _ _ _).2 ⟨i,hi,rfl,?_⟩) ho hb (fun q=>absurd rfl q);rw[j5r,Int.zero_add];have:q1b.mk x.Name (i:Int) ∉ a:=hna;simp[this,q3b]
theorem Res.parted{t:Tx}{cut:List q1b}(H:Res g fs t cut)(R:q5i g):rb (WoG g cut) fs t=false:=by
 obtain⟨u,v,S,T,U,C,L,rfl⟩:=H;cases h:rb (WoG g ((LsG g fs).filter (j9q (·.Func) S T))) fs t
 ·rfl
 ·have h:=z7f.1 h
  have hen:∀e,e∈g.Entries->e∈FsG g:=fun e he=>by
   obtain⟨f,h1,h2⟩:=q7x.1 (R.e e he);exact bk9.2 ⟨f,h1,h2⟩
  have:=y0q (P:=fun y=>S y=true) (fun e he=>C.z e (hen e he) he) (fun s hs hna hS y hy=>by
   refine C.b s hs ?_ y (v9i R hy) hy;cases hT:T s
   ·exact absurd (cm9.2 ⟨hs,by simp[j9q,hS,hT]⟩) hna
   ·rfl) h rfl
  rw[C.t] at this;simp at this
theorem Res.fewer{t:Tx}{cut:List q1b}(H:Res g fs t cut)(R:q5i g)(hl:a.length<cut.length):rb (WoG g a) fs t=true:=by
 obtain⟨u,v,S,T,U,C,L,rfl⟩:=H;cases h:rb (WoG g a) fs t
 ·have h1:=U.no_fewer C (R:=rb (WoG g a) fs) (fun s=>decide (s∈a)) (fun f hf hz=>z7f.2 (.entry hz)) h (fun s hs hna hr y hy ht=>by
   exact z7f.2 (RN_W hs (by simpa using hna) (z7f.1 hr) ht))
  have h2:=ck8 (l₁:=(LsG g fs).filter (fun s=>decide (s∈a))) (l₂:=a) ((z0o (z4q R)).filter _) (fun s hs=>by simpa using (cm9.1 hs).2);omega
 ·rfl
theorem y5p(R:q5i g){s:q1b}(hs:s∈LsG g fs):atE g s=0:=by
 obtain⟨l,hl,rfl⟩:=bk9.1 hs;obtain⟨x,hx,i,hi,ho,rfl⟩:=q4r.1 hl;unfold atE y0o;have:=z7c (f:=fun f:q8e=>f.Name) R.fsrt hx;simp only;rw[this];simp only;rw[if_neg (by omega),if_neg (by omega)]
theorem w0r:∀(l:List q1b) (p:Option q1b),(∀s,s∈l->atE g s=0)->l.Pairwise (fun a b=>slt a b=true)->(∀q,p=some q->∀s,s∈l->slt q s=true)->swE g p l=0
 |[],p,h1,h2,h3=>rfl
 |s::l,p,h1,h2,h3=>by
  obtain⟨h4,h5⟩:=cf9.1 h2;rw[swE,if_neg (by simp[h1 s (by simp)])]
  rw[if_neg (by
   cases p with
   |none=>simp
   |some q=>simp[h3 q rfl s (by simp)])]
  exact w0r l (some s) (fun s hs=>h1 s (cl9 _ hs)) h5 (fun q hq s' hs'=>by cases hq;exact h4 s' hs')
theorem v0n(R:q5i g)(h0:chk false g=0){l:List q1b}(h:l.Sublist (LsG g fs)):y8e g l=0:=by
 unfold y8e;rw[if_neg (by simp[h0])];exact w0r l none (fun s hs=>y5p R (h.subset hs)) ((z4q R).sublist h) (fun q hq=>by simp at hq)
theorem y7m(h:z4z g 1 fs=0):z4z (WoG g a) 1 fs=0:=by
 unfold z4z at h ⊢;split at h
 ·rename_i q;exact absurd h q
 rename_i h1;rw[if_neg (by simpa using chk_W a (by simpa using h1))];exact h
theorem w2n{t:Tx}(h:j0b g fs t=0):z4z g 1 fs=0:=by
 unfold j0b at h;by_cases h1:z4z g 1 fs=0
 ·exact h1
 ·rw[if_pos h1] at h;exact absurd h h1
theorem z7u:∃F:Nat,1000000000000000000000000<=F/\M8 F=some true:=⟨1000000000000000000000000,ae8 _,w4v⟩
end
inductive Nd where
 |F (x:Tx)
 |A (s:q1b)
 |B (s:q1b)
 deriving DecidableEq
structure UvS where
 u:q1b->Int
 i:q1b->Int
 v:q1b->Tx->Int
def Av(Ls:List q1b)(tos:q1b->Tx->Prop)(st:UvS):Nd->Nd->Prop
 | .F f,.A s=>s∈Ls/\s.Func=f
 | .A s,.F f=>s∈Ls/\s.Func=f/\0<st.i s
 | .B s,.F y=>s∈Ls/\tos s y
 | .F y,.B s=>s∈Ls/\tos s y/\0<st.v s y
 | .A s,.B s'=>s'=s/\s∈Ls/\st.u s=0
 | .B s,.A s'=>s'=s/\s∈Ls/\st.u s=1
 |_,_=>False
def z6e(st:UvS):Nd->Nd->UvS
 | .F f,.A s=>{ st with i:=fun s'=>if s'=s then st.i s+1 else st.i s' }
 | .A s,.F f=>{ st with i:=fun s'=>if s'=s then st.i s - 1 else st.i s' }
 | .B s,.F y=>{ st with v:=fun s' y'=>if s'=s/\y'=y then st.v s y+1 else st.v s' y' }
 | .F y,.B s=>{ st with v:=fun s' y'=>if s'=s/\y'=y then st.v s y - 1 else st.v s' y' }
 | .A s,.B _=>{ st with u:=fun s'=>if s'=s then 1 else st.u s' }
 | .B s,.A _=>{ st with u:=fun s'=>if s'=s then 0 else st.u s' }
 |_,_=>st
def exs(Ls:List q1b)(Fs:List Tx)(st:UvS):Nd->Int
 | .F f=>sm Ls (fun s=>st.v s f) - sm Ls (fun s=>if s.Func=f then st.i s else 0)
 | .A s=>st.i s - st.u s
 | .B s=>st.u s - sm Fs (st.v s)
def Vd(Ls:List q1b)(Fs:List Tx):Nd->Prop
 | .F f=>f∈Fs
 | .A s=>s∈Ls
 | .B s=>s∈Ls
structure w8p(Ls:List q1b)(Fs:List Tx)(tos:q1b->Tx->Prop)(K:Nat)(st:UvS):Prop where
 u:∀s,st.u s=0\/st.u s=1
 i:∀s,0<=st.i s/\st.i s<=K
 v:∀s y,0<=st.v s y/\st.v s y<=K
 vt:∀s y,0<st.v s y->tos s y
section
variable{Ls:List q1b}{Fs:List Tx}{tos:q1b->Tx->Prop}
theorem j9n{α:Type}[DecidableEq α]{l:List α}(hl:l.Nodup){a:α}(ha:a∈l)(f g:α->Int)(h:∀x,x≠a->g x=f x):sm l g=sm l f+(g a - f a):=by
 have:sm l (fun x=>g x - f x)=g a - f a:=z9b (a:=a) _ hl ha (fun x _ hx=>by rw[h x hx];omega);rw[z3u] at this;omega
theorem w8p.step{K:Nat}{st:UvS}(I:w8p Ls Fs tos K st){p x:Nd}(h:Av Ls tos st p x):w8p Ls Fs tos (K+1) (z6e st p x):=by
 have I':w8p Ls Fs tos (K+1) st:=⟨I.u,fun s=>by have:=I.i s;omega,fun s y=>by have:=I.v s y;omega,I.vt⟩;cases p<;>cases x<;>first|exact I'|skip
 all_goals simp only[Av] at h
 all_goals simp only[z6e]
 ·rename_i f s;refine⟨I.u,fun s'=>?_,I'.v,I.vt⟩;have:=I.i s;have:=I.i s';simp only;split<;>omega
 ·rename_i y s;refine⟨I.u,I'.i,fun s' y'=>?_,fun s' y' hv=>?_⟩
  ·have:=I.v s y;have:=I.v s' y';simp only;split<;>omega
  ·simp only at hv;split at hv
   ·rename_i q;rw[q.1,q.2];exact h.2.1
   ·exact I.vt _ _ hv
 ·rename_i s f;refine⟨I.u,fun s'=>?_,I'.v,I.vt⟩;have:=I.i s;have:=I.i s';simp only;split<;>omega
 ·rename_i s s';refine⟨fun s'=>?_,I'.i,I'.v,I.vt⟩;simp only;split
  ·simp
  ·exact I.u s'
 ·rename_i s y;refine⟨I.u,I'.i,fun s' y'=>?_,fun s' y' hv=>?_⟩
  ·have:=I.v s y;have:=I.v s' y';simp only;split<;>omega
  ·simp only at hv;split at hv
   ·rename_i q;rw[q.1,q.2];exact h.2
   ·exact I.vt _ _ hv
 ·rename_i s s';refine⟨fun s'=>?_,I'.i,I'.v,I.vt⟩;simp only;split
  ·simp
  ·exact I.u s'
theorem w1n(hL:Ls.Nodup)(hF:Fs.Nodup)(ht:∀s y,tos s y->y∈Fs){st:UvS}{p x:Nd}(h:Av Ls tos st p x){n:Nd}(hn:Vd Ls Fs n):exs Ls Fs (z6e st p x) n=exs Ls Fs st n+(if n=x then 1 else 0) - (if n=p then 1 else 0):=by
 cases p<;>cases x<;>simp only[Av] at h
 ·rename_i f s;cases n with
  |F y=>
   simp only[exs,z6e];rw[j9n hL h.1 (fun s'=>if s'.Func=y then st.i s' else 0) (fun s'=>if s'.Func=y then (if s'=s then st.i s+1 else st.i s') else 0) (fun s' hs'=>by simp only[hs',if_false])];simp only[if_true,Nd.F.injEq,reduceCtorEq,if_false];rw[h.2];by_cases e:f=y
   ·subst e;simp;omega
   ·have e':¬y=f:=fun q=>e q.symm;simp[e,e']
  |A s'=>
   simp only[exs,z6e,Nd.A.injEq,reduceCtorEq,if_false];by_cases e:s'=s
   ·subst e;simp;omega
   ·simp[e]
  |B s'=>simp[exs,z6e]
 ·rename_i y s;cases n with
  |F f=>
   simp only[exs,z6e];rw[j9n hL h.1 (fun s'=>st.v s' f) (fun s'=>if s'=s/\f=y then st.v s y - 1 else st.v s' f) (fun s' hs'=>by simp only[hs',false_and,if_false])];simp only[Nd.F.injEq,reduceCtorEq,if_false];by_cases e:f=y
   ·subst e;simp;omega
   ·simp[e]
  |A s'=>simp[exs,z6e]
  |B s'=>
   simp only[exs,z6e,Nd.B.injEq,reduceCtorEq,if_false];by_cases e:s'=s
   ·subst e;rw[j9n hF (ht _ _ h.2.1) (st.v s') (fun y'=>if s'=s'/\y'=y then st.v s' y - 1 else st.v s' y') (fun y' hy'=>by simp only[hy',and_false,if_false])];simp;omega
   ·have:(fun y'=>if s'=s/\y'=y then st.v s y - 1 else st.v s' y')=st.v s':=by funext y';simp[e]
    rw[this];simp[e]
 ·rename_i s f;cases n with
  |F y=>
   simp only[exs,z6e];rw[j9n hL h.1 (fun s'=>if s'.Func=y then st.i s' else 0) (fun s'=>if s'.Func=y then (if s'=s then st.i s - 1 else st.i s') else 0) (fun s' hs'=>by simp only[hs',if_false])];simp only[if_true,Nd.F.injEq,reduceCtorEq,if_false];rw[h.2.1];by_cases e:f=y
   ·subst e;simp;omega
   ·have e':¬y=f:=fun q=>e q.symm;simp[e,e']
  |A s'=>
   simp only[exs,z6e,Nd.A.injEq,reduceCtorEq,if_false];by_cases e:s'=s
   ·subst e;simp;omega
   ·simp[e]
  |B s'=>simp[exs,z6e]
 ·rename_i s s2;obtain⟨rfl,h1,h2⟩:=h;cases n with
  |F y=>simp[exs,z6e]
  |A s'=>
   simp only[exs,z6e,Nd.A.injEq,reduceCtorEq,if_false];by_cases e:s'=s2
   ·subst e;simp;omega
   ·simp[e]
  |B s'=>
   simp only[exs,z6e,Nd.B.injEq,reduceCtorEq,if_false];by_cases e:s'=s2
   ·subst e;simp;omega
   ·simp[e]
 ·rename_i s y;cases n with
  |F f=>
   simp only[exs,z6e];rw[j9n hL h.1 (fun s'=>st.v s' f) (fun s'=>if s'=s/\f=y then st.v s y+1 else st.v s' f) (fun s' hs'=>by simp only[hs',false_and,if_false])];simp only[Nd.F.injEq,reduceCtorEq,if_false];by_cases e:f=y
   ·subst e;simp;omega
   ·simp[e]
  |A s'=>simp[exs,z6e]
  |B s'=>
   simp only[exs,z6e,Nd.B.injEq,reduceCtorEq,if_false];by_cases e:s'=s
   ·subst e;rw[j9n hF (ht _ _ h.2) (st.v s') (fun y'=>if s'=s'/\y'=y then st.v s' y+1 else st.v s' y') (fun y' hy'=>by simp only[hy',and_false,if_false])];simp;omega
   ·have:(fun y'=>if s'=s/\y'=y then st.v s y+1 else st.v s' y')=st.v s':=by funext y';simp[e]
    rw[this];simp[e]
 ·rename_i s s2;obtain⟨rfl,h1,h2⟩:=h;cases n with
  |F y=>simp[exs,z6e]
  |A s'=>
   simp only[exs,z6e,Nd.A.injEq,reduceCtorEq,if_false];by_cases e:s'=s2
   ·subst e;simp;omega
   ·simp[e]
  |B s'=>
   simp only[exs,z6e,Nd.B.injEq,reduceCtorEq,if_false];by_cases e:s'=s2
   ·subst e;simp;omega
   ·simp[e]
theorem y7n{st:UvS}{p x:Nd}(hp:Av Ls tos st p x){s:q1b}(h1:¬(p=.F s.Func/\x=.A s))(h2:¬(p=.A s/\x=.F s.Func)):(z6e st p x).i s=st.i s:=by
 cases p<;>cases x<;>simp only[Av] at hp<;>simp only[z6e]
 ·rename_i f s';rw[if_neg];intro e;subst e;exact h1 ⟨by rw[hp.2],rfl⟩
 ·rename_i s' f;rw[if_neg];intro e;subst e;exact h2 ⟨rfl,by rw[hp.2.1]⟩
theorem y9e{st:UvS}{p x:Nd}(hp:Av Ls tos st p x){s:q1b}{y:Tx}(h1:¬(p=.B s/\x=.F y))(h2:¬(p=.F y/\x=.B s)):(z6e st p x).v s y=st.v s y:=by
 cases p<;>cases x<;>simp only[Av] at hp<;>simp only[z6e]
 ·rename_i y' s';rw[if_neg]
  rintro⟨e1,e2⟩;subst e1;subst e2
  exact h2 ⟨rfl,rfl⟩
 ·rename_i s' y';rw[if_neg]
  rintro⟨e1,e2⟩;subst e1;subst e2
  exact h1 ⟨rfl,rfl⟩
theorem v5x{st:UvS}{p x:Nd}(hp:Av Ls tos st p x){s:q1b}(h1:¬(p=.A s/\x=.B s))(h2:¬(p=.B s/\x=.A s)):(z6e st p x).u s=st.u s:=by
 cases p<;>cases x<;>simp only[Av] at hp<;>simp only[z6e]
 ·rename_i s' s2;obtain⟨rfl,_⟩:=hp;rw[if_neg];intro e;subst e;exact h1 ⟨rfl,rfl⟩
 ·rename_i s' s2;obtain⟨rfl,_⟩:=hp;rw[if_neg];intro e;subst e;exact h2 ⟨rfl,rfl⟩
theorem y9d{st:UvS}{p x a b:Nd}(h:Av Ls tos st a b)(hp:Av Ls tos st p x)(h1:¬(a=p/\b=x))(h2:¬(a=x/\b=p)):Av Ls tos (z6e st p x) a b:=by
 cases a<;>cases b<;>simp only[Av] at h ⊢
 ·exact h
 ·rename_i y s;refine⟨h.1,h.2.1,?_⟩;rw[y9e hp (fun q=>h2 ⟨q.2.symm,q.1.symm⟩) (fun q=>h1 ⟨q.1.symm,q.2.symm⟩)];exact h.2.2
 ·rename_i s f;refine⟨h.1,h.2.1,?_⟩;obtain⟨_,rfl,h3⟩:=h;rw[y7n hp (fun q=>h2 ⟨q.2.symm,q.1.symm⟩) (fun q=>h1 ⟨q.1.symm,q.2.symm⟩)];exact h3
 ·rename_i s s2;obtain⟨rfl,h3,h4⟩:=h;refine⟨rfl,h3,?_⟩;rw[v5x hp (fun q=>h1 ⟨q.1.symm,q.2.symm⟩) (fun q=>h2 ⟨q.2.symm,q.1.symm⟩)];exact h4
 ·exact h
 ·rename_i s s2;obtain⟨rfl,h3,h4⟩:=h;refine⟨rfl,h3,?_⟩;rw[v5x hp (fun q=>h2 ⟨q.2.symm,q.1.symm⟩) (fun q=>h1 ⟨q.1.symm,q.2.symm⟩)];exact h4
end
structure BF(Ls:List q1b)(Fs:List Tx)(tos:q1b->Tx->Prop)(Z:Tx->Prop)(st:UvS)(par:Nd->Option Nd)(rk:Nd->Nat):Prop where
 root:∀f,f∈Fs->Z f->(par (.F f)).isSome=true
 cls:∀a b,(par a).isSome=true->Av Ls tos st a b->Vd Ls Fs b->(par b).isSome=true
 pr:∀b a,par b=some a->(a=b/\∃f,Z f/\b=.F f)\/(rk a<rk b/\Av Ls tos st a b/\(par a).isSome=true)
 vd:∀b,(par b).isSome=true->Vd Ls Fs b
def v9v(Ls:List q1b)(Fs:List Tx)(tos:q1b->Tx->Prop)(Z:Tx->Prop)(t:Tx)(K:Nat)(st:UvS):Prop:=w8p Ls Fs tos K st/\∀n,Vd Ls Fs n->(∀f,Z f->n≠.F f)->n≠.F t->exs Ls Fs st n=0
section
variable{Ls:List q1b}{Fs:List Tx}{tos:q1b->Tx->Prop}{Z:Tx->Prop}{t:Tx}{K:Nat}{st:UvS}{par:Nd->Option Nd}{rk:Nd->Nat}
theorem v9v.iu(R:v9v Ls Fs tos Z t K st){s:q1b}(hs:s∈Ls):st.i s=st.u s:=by
 have:=R.2 (.A s) hs (fun _ _=>by simp) (by simp);simp only[exs] at this;omega
theorem v9v.uv(R:v9v Ls Fs tos Z t K st)(hF:Fs.Nodup)(hin:∀s,s∈Ls->s.Func∈Fs):UV Ls Fs (·.Func) tos Z t st.u st.v:=by
 have I:=R.1;refine⟨hF,hin,fun s _=>?_,fun s _=>?_,fun s _ y _=>(I.v s y).1,fun s _ y _ h=>I.vt s y h,fun s hs=>?_,fun f hf hz ht=>?_⟩
 ·have:=I.u s;omega
 ·have:=I.u s;omega
 ·have:=R.2 (.B s) hs (fun _ _=>by simp) (by simp);simp only[exs] at this;omega
 ·have:=R.2 (.F f) hf (fun f' hz' e=>by simp only[Nd.F.injEq] at e;subst e;exact hz hz') (fun e=>by simp only[Nd.F.injEq] at e;exact ht e);simp only[exs] at this;rw[z3u]
  have e:sm Ls (fun s=>if s.Func=f then st.u s else 0)=sm Ls (fun s=>if s.Func=f then st.i s else 0):=q4n fun s hs=>by
   split
   ·exact(R.iu hs).symm
   ·rfl
  have e':sm Ls (fun s:q1b=>if (fun s:q1b=>s.Func) s=f then st.u s else 0)=sm Ls (fun s=>if s.Func=f then st.u s else 0):=rfl;rw[e',e];omega
theorem v9v.le(R:v9v Ls Fs tos Z t K st)(hF:Fs.Nodup)(hin:∀s,s∈Ls->s.Func∈Fs)(ht:t∈Fs):exs Ls Fs st (.F t)<=Ls.length:=by
 have U:=R.uv hF hin;simp only[exs]
 have h1:sm Ls (fun s=>st.v s t)<=sm Ls (fun _=>1):=j6r fun s hs=>by
  have g1:=j7r (fun y hy=>U.v0 s hs y hy) ht;have g2:=U.sum s hs;have g3:=U.u1 s hs;omega
 have h2:0<=sm Ls (fun s=>if s.Func=t then st.i s else 0):=q2z fun s _=>by
  split
  ·exact(R.1.i s).1
  ·omega
 have h3:∀l:List q1b,sm l (fun _=>(1:Int))=(l.length:Int):=by
  intro l
  induction l with
  |nil=>rfl
  |cons x l ih=>rw[q5o,ih,cj8];omega
 rw[h3] at h1;omega
theorem BF.closed(Q:BF Ls Fs tos Z st par rk)(R:v9v Ls Fs tos Z t K st)(hin:∀s,s∈Ls->s.Func∈Fs)(ht:par (.F t)=none):UCl Ls Fs (·.Func) tos Z t st.u st.v (fun f=>(par (.F f)).isSome) (fun s=>(par (.B s)).isSome):=by
 refine⟨fun f hf hz=>Q.root f hf hz,by simp[ht],fun s hs hS hu=>?_,fun s hs hT y hy hty=>?_,fun s hs hT hu=>?_,fun s hs y hy hS hv=>?_⟩
 ·have h1:=Q.cls (.F s.Func) (.A s) hS ⟨hs,rfl⟩ hs;exact Q.cls (.A s) (.B s) h1 ⟨rfl,hs,hu⟩ hs
 ·exact Q.cls (.B s) (.F y) hT ⟨hs,hty⟩ hy
 ·have h1:=Q.cls (.B s) (.A s) hT ⟨rfl,hs,hu⟩ hs;exact Q.cls (.A s) (.F s.Func) h1 ⟨hs,rfl,by rw[R.iu hs];omega⟩ (hin s hs)
 ·exact Q.cls (.F y) (.B s) hS ⟨hs,R.1.vt s y hv,hv⟩ hs
theorem BF.least(Q:BF Ls Fs tos Z st par rk)(R:v9v Ls Fs tos Z t K st)(hin:∀s,s∈Ls->s.Func∈Fs){A:Tx->Bool}{B:q1b->Bool}(C:UCl Ls Fs (·.Func) tos Z t st.u st.v A B):
  (∀f,f∈Fs->(par (.F f)).isSome=true->A f=true)/\∀s,s∈Ls->(par (.B s)).isSome=true->B s=true:=by
 let P:Nd->Prop:=fun n=>match n with | .F f=>A f=true | .A s=>A s.Func=true | .B s=>B s=true
 have key:∀(q:Nat) (n:Nd),rk n=q->(par n).isSome=true->P n:=by
  intro q
  induction q using Nat.strongRecOn with
  |ind q ih=>
   intro n hn hp;obtain⟨a,ha⟩:=ae9.1 hp;have hvd:=Q.vd n hp;rcases Q.pr n a ha with ⟨_,f,hz,rfl⟩|⟨h1,h2,h3⟩
   ·exact C.z f hvd hz
   ·have hva:=Q.vd a h3;have pa:=ih (rk a) (by omega) a rfl h3;cases a<;>cases n<;>simp only[Av] at h2
    ·rename_i f s
     show A s.Func=true
     rw[h2.2];exact pa
    ·rename_i y s;exact C.d s h2.1 y hva pa h2.2.2
    ·rename_i s f
     show A f=true
     rw[<-h2.2.1];exact pa
    ·rename_i s s';obtain⟨rfl,h4,h5⟩:=h2;exact C.a s' h4 pa h5
    ·rename_i s y;exact C.b s h2.1 pa y hvd h2.2
    ·rename_i s s';obtain⟨rfl,h4,h5⟩:=h2;exact C.c s' h4 pa h5
 exact⟨fun f _ h=>key _ _ rfl h,fun s _ h=>key _ _ rfl h⟩
theorem BF.cut(Q:BF Ls Fs tos Z st par rk){s:q1b}(hs:s∈Ls):((par (.A s)).isSome&&!(par (.B s)).isSome)=((par (.F s.Func)).isSome&&!(par (.B s)).isSome):=by
 cases hB:(par (.B s)).isSome
 ·simp only[Bool.not_false,Bool.and_true];cases hF:(par (.F s.Func)).isSome
  ·cases hA:(par (.A s)).isSome
   ·rfl
   ·obtain⟨a,ha⟩:=ae9.1 hA;rcases Q.pr _ a ha with ⟨_,f,_,h⟩|⟨_,h2,h3⟩
    ·simp at h
    ·cases a<;>simp only[Av] at h2
     ·rw[h2.2] at hF;rw[hF] at h3;simp at h3
     ·rw[<-h2.1] at h3;rw[hB] at h3;simp at h3
  ·rw[Q.cls (.F s.Func) (.A s) hF ⟨hs,rfl⟩ hs]
 ·simp
theorem BF.res(Q:BF Ls Fs tos Z st par rk)(R:v9v Ls Fs tos Z t K st)(hF:Fs.Nodup)(hin:∀s,s∈Ls->s.Func∈Fs)(ht:par (.F t)=none):
  ∃u v S T,UV Ls Fs (·.Func) tos Z t u v/\UCl Ls Fs (·.Func) tos Z t u v S T/\
   (∀A B,UCl Ls Fs (·.Func) tos Z t u v A B->(∀f,f∈Fs->S f=true->A f=true)/\∀s,s∈Ls->T s=true->B s=true)/\
   Ls.filter (fun s=>(par (.A s)).isSome&&!(par (.B s)).isSome)=Ls.filter (j9q (·.Func) S T):=
 ⟨_,_,_,_,R.uv hF hin,Q.closed R hin ht,fun A B C=>Q.least R hin C,af8 fun s hs=>Q.cut hs⟩
end
end Go.Proofs.YtcihpgamojpcnaaGreat
