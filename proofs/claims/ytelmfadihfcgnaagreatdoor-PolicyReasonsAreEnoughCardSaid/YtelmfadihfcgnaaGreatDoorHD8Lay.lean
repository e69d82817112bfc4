/- Part of the proof. -/
import Derived.Test.YtelmfadihfcgnaaGreatDoorHD8P0
import Derived.Shelf.Strconv.Atoi
import Derived.Shelf.Slices.CompactI
import Derived.Shelf.Slices.CompactS
import Derived.Shelf.Slices.Empties
import Derived.Shelf.SlicesE.Delete
set_option linter.unusedSimpArgs false
set_option linter.unusedVariables false
namespace Go.Proofs.YtelmfadihfcgnaaGreatDoor
open Go Go.Pv
set_option maxRecDepth 100000
theorem IP:Tryz.prog.bytesOf 39=32:=by kernel_rfl
theorem IM:Tryz.prog.bytesOf 41=24:=by kernel_rfl
theorem sj{f:aZ}(h:mE f):okTFact' f:=
 ⟨h.1,h.2.1,fun p hp=>⟨(h.2.2.1.1.1 p hp).1,(h.2.2.1.1.1 p hp).2.1⟩,h.2.2.1.1.2,fun p hp=>(h.2.2.2.1.1.1 p hp).1,h.2.2.2.1.1.2⟩
theorem yf{f:aZ}(h:mE f):f.Texts.length*32<=140737488351232/\f.Numbers.length*24<=140737488351232:=by
 have h1:=h.2.2.1.2;have h2:=h.2.2.2.1.2;rw[IP] at h1;rw[IM] at h2;exact⟨h1,h2⟩
def qi(l:List bb)(s:bb):Bool:=l.any fun w=>s==w
theorem Io{l:List bb}{s:bb}:qi l s=true<->s∈l:=by
 unfold qi;rw[cf9];constructor
 ·rintro⟨w,h1,h2⟩
  rw[beq_iff_eq] at h2;exact h2 ▸ h1
 ·exact fun h=>⟨s,h,by simp⟩
theorem pY(F:Nat)(a3:List bb)(k:List bC->Option aZ):∀(l acc:List bC),(acc.length+l.length)*32<=140737488355328->mB F a3 k l acc=k (acc++l.filter fun x=>!(qi a3 x.Name))
 |[],acc,_=>by rw[mB];simp
 |x::l,acc,h=>by
  simp only[bx9] at h;rw[mB,kH,by8,aH,aa8]
  show(if (!(qi a3 x.Name))=true then _ else _)=_
  cases hx:qi a3 x.Name with
  |true=>
   rw[if_neg (by simp),if_neg (by simp)];exact pY F a3 k l acc (by omega)
  |false=>
   rw[if_pos (by simp),if_pos (by simp;omega),if_pos (by simp)];refine(pY F a3 k l (acc++[x]) (by simp;omega)).trans ?_;simp
theorem pX(F:Nat)(a3:List bb)(k:List bC->Option aZ):∀(l acc:List bC),(acc.length+l.length)*32<=140737488355328->mA F a3 k l acc=k (acc++l.filter fun x=>qi a3 x.Name)
 |[],acc,_=>by rw[mA];simp
 |x::l,acc,h=>by
  simp only[bx9] at h;rw[mA,kH,by8,aH,aa8]
  show(if (qi a3 x.Name)=true then _ else _)=_
  cases hx:qi a3 x.Name with
  |false=>
   rw[if_neg (by simp),if_neg (by simp)];exact pX F a3 k l acc (by omega)
  |true=>
   rw[if_pos rfl,if_pos (by simp;omega),if_pos rfl];refine(pX F a3 k l (acc++[x]) (by simp;omega)).trans ?_;simp
theorem pW(F:Nat)(a3:List bb)(k:List aT->Option aZ):∀(l acc:List aT),(acc.length+l.length)*24<=140737488355328->mz F a3 k l acc=k (acc++l.filter fun x=>!(qi a3 x.Name))
 |[],acc,_=>by rw[mz];simp
 |x::l,acc,h=>by
  simp only[bx9] at h;rw[mz,kH,by8,aH,aa8]
  show(if (!(qi a3 x.Name))=true then _ else _)=_
  cases hx:qi a3 x.Name with
  |true=>
   rw[if_neg (by simp),if_neg (by simp)];exact pW F a3 k l acc (by omega)
  |false=>
   rw[if_pos (by simp),if_pos (by simp;omega),if_pos (by simp)];refine(pW F a3 k l (acc++[x]) (by simp;omega)).trans ?_;simp
theorem pV(F:Nat)(a3:List bb)(k:List aT->Option aZ):∀(l acc:List aT),(acc.length+l.length)*24<=140737488355328->my F a3 k l acc=k (acc++l.filter fun x=>qi a3 x.Name)
 |[],acc,_=>by rw[my];simp
 |x::l,acc,h=>by
  simp only[bx9] at h;rw[my,kH,by8,aH,aa8]
  show(if (qi a3 x.Name)=true then _ else _)=_
  cases hx:qi a3 x.Name with
  |false=>
   rw[if_neg (by simp),if_neg (by simp)];exact pV F a3 k l acc (by omega)
  |true=>
   rw[if_pos rfl,if_pos (by simp;omega),if_pos rfl];refine(pV F a3 k l (acc++[x]) (by simp;omega)).trans ?_;simp
theorem EF{T:Type}(nm:T->bb)(cmp:T->T->Option Int)(h:∀x y,cmp x y=if Op.bytesLess (nm x) (nm y)=true then some (-1) else some 1)(l:List T):rU cmp l=true:=by
 have hc:∀x y,gN cmp x y=Op.bytesLess (nm x) (nm y):=fun x y=>by
  unfold gN;rw[h];cases Op.bytesLess (nm x) (nm y)<;>rfl
 unfold rU;rw[aq8];intro x _;rw[aq9,hc,iA,aq8];refine⟨Y,fun y _=>?_⟩;rw[aq9,aq8];refine⟨by rw[h];split<;>rfl,fun z _=>?_⟩;rw[hc,hc,hc];cases h1:Op.bytesLess (nm x) (nm y)<;>cases h2:Op.bytesLess (nm y) (nm z)<;>cases h3:Op.bytesLess (nm x) (nm z)<;>try rfl
 ·exfalso;rcases pH (nm x) (nm y) with q|q|q
  ·rw[h1] at q;cases q
  ·rw[q,h2] at h3;cases h3
  ·rw[fM q h3] at h2;cases h2
 ·rw[fM h1 h2] at h3;cases h3
def Hv(f g:aZ)(l:List bb):List bC:=g.Texts.filter (fun x=>!(qi l x.Name))++f.Texts.filter fun x=>qi l x.Name
def Hw(f g:aZ)(l:List bb):List aT:=g.Numbers.filter (fun x=>!(qi l x.Name))++f.Numbers.filter fun x=>qi l x.Name
theorem Mw(F:Nat)(f g:aZ)(l:List bb)(h1:g.Texts.length*32<=140737488351232)(h2:g.Numbers.length*24<=140737488351232)(h3:f.Texts.length<=30)(h4:f.Numbers.length<=30):
  ∃T N,Ot F f g l=some ⟨f.Kind,g.Subject,T,N⟩/\T.Perm (Hv f g l)/\N.Perm (Hw f g l):=by
 have a1:=ab9 (fun x:bC=>!(qi l x.Name)) g.Texts;have a2:=ab9 (fun x:bC=>qi l x.Name) f.Texts;have a3:=ab9 (fun x:aT=>!(qi l x.Name)) g.Numbers;have a4:=ab9 (fun x:aT=>qi l x.Name) f.Numbers;obtain⟨T,e1⟩:=uw (cmp:=fun x y=>Ol F x y) (l:=Hv f g l) (EF (fun x:bC=>x.Name) _ (fun x y=>rfl) _) (by unfold Hv;rw[bi8];omega);obtain⟨N,e2⟩:=uw (cmp:=fun x y=>Ok F x y) (l:=Hw f g l) (EF (fun x:aT=>x.Name) _ (fun x y=>rfl) _) (by unfold Hw;rw[bi8];omega);have p1:=pm e1;have p2:=pm e2;refine⟨T,N,?_,p1,p2⟩;unfold Ot;rw[aH,pY F l _ _ _ (by simp;omega),aH,ad9,pX F l _ _ _ (by omega),aH,pW F l _ _ _ (by simp;omega),aH,ad9,pV F l _ _ _ (by omega)];have q1:=p1.length_eq;have q2:=p2.length_eq;unfold Hv at e1 q1;unfold Hw at e2 q2;unfold OO ON;rw[e1,by8,if_pos q1,e2,by8,if_pos q2]
section
variable{α:Type}(nm:α->bb)
theorem BT:∀{l:List α} {x:α} {n:bb},(l.map nm).Nodup->x∈l->nm x=n->l.find? (fun x=>nm x==n)=some x
 |y::l,x,n,h,hx,e=>by
  rw[bm9,aa9] at h;rw[List.find?_cons];rcases as9.1 hx with q|q
  ·subst q;rw[show(nm x==n)=true by simpa using e]
  ·have:nm y≠n:=fun q2=>h.1 (by rw[q2,<-e];exact bo8 q);rw[show(nm y==n)=false by simpa using this];exact BT h.2 q e
theorem BU{T U:List α}{n:bb}(hT:(T.map nm).Nodup)(hU:(U.map nm).Nodup)(h:∀x,nm x=n->(x∈T<->x∈U)):T.find? (fun x=>nm x==n)=U.find? (fun x=>nm x==n):=by
 cases e:T.find? (fun x=>nm x==n) with
 |some x=>
  have h1:=List.mem_of_find?_eq_some e;have h2:nm x=n:=by simpa using List.find?_some e
  exact(BT nm hU ((h x h2).1 h1) h2).symm
 |none=>
  symm
  rw[List.find?_eq_none] at e ⊢;intro x hx hn;have h2:nm x=n:=by simpa using hn
  exact e x ((h x h2).2 hx) hn
end
theorem ry(n:bb):∀(l:List bC) (p:Bool×bb),(l.map (·.Name)).Nodup->fT n l p=((l.find? fun x=>x.Name==n).map fun x=>(true,x.Value)).getD p
 |[],p,_=>rfl
 |x::l,p,h=>by
  rw[bm9,aa9] at h;rw[fT,List.find?_cons];cases e:x.Name==n with
  |true=>
   rw[if_pos rfl,ry n l _ h.2]
   have:l.find? (fun x=>x.Name==n)=none:=by
    rw[List.find?_eq_none];intro y hy hn;have e1:y.Name=n:=by simpa using hn
    have e2:x.Name=n:=by simpa using e
    exact h.1 (by rw[e2,<-e1];exact bo8 (f:=fun x:bC=>x.Name) hy)
   rw[this];rfl
  |false=>rw[if_neg (by simp),ry n l p h.2]
theorem rz(n:bb):∀(l:List aT) (p:Bool×Int),(l.map (·.Name)).Nodup->fN n l p=((l.find? fun x=>x.Name==n).map fun x=>(true,x.N)).getD p
 |[],p,_=>rfl
 |x::l,p,h=>by
  rw[bm9,aa9] at h;rw[fN,List.find?_cons];cases e:x.Name==n with
  |true=>
   rw[if_pos rfl,rz n l _ h.2]
   have:l.find? (fun x=>x.Name==n)=none:=by
    rw[List.find?_eq_none];intro y hy hn;have e1:y.Name=n:=by simpa using hn
    have e2:x.Name=n:=by simpa using e
    exact h.1 (by rw[e2,<-e1];exact bo8 (f:=fun x:aT=>x.Name) hy)
   rw[this];rfl
  |false=>rw[if_neg (by simp),rz n l p h.2]
theorem Cd{l:List bb}(h:∀i (hi:i+1<l.length),Op.bytesLess l[i] l[i+1]=true):jD l:=by
 rw[jD,aw9];intro i j hi hj hij;obtain⟨d,rfl⟩:∃d,j=i+1+d:=⟨j - i - 1,by omega⟩
 clear hij
 induction d with
 |zero=>exact h i hj
 |succ d ih=>exact fM (ih (by omega)) (h (i+1+d) hj)
theorem FS{a b:bb}(h:JT a b=false):Op.bytesLess b a=true:=by
 have:=NK a b;unfold JT at h;rw[h] at this;exact this.symm
theorem Bl{a:List bC}:∀(l:List bC) (n:Nat),a.drop n=l->xU a l n=0->∀i (hi:i+1<a.length),n<=i+1->Op.bytesLess a[i].Name a[i+1].Name=true
 |[],n,h,_,i,hi,hle=>by
  have:=congrArg List.length h;simp at this;omega
 |x::l,n,h,ht,i,hi,hle=>by
  obtain⟨h1,h2,h3,h4⟩:=iz h;rw[xU] at ht;split at ht
  ·cases ht
  ·split at ht
   ·cases ht
   ·split at ht
    ·cases ht
    ·rename_i hc;by_cases e:n=i+1
     ·subst e
      have hx:x=a[i+1]:=by
       rw[bu8 h1] at h;exact(ag9 h).1.symm
      rw[show decide (0<i+1)=true from rfl,ah9,Bool.not_eq_true] at hc;have:=FS hc;rw[show i+1 - 1=i from rfl,cm9,az9 (by omega),bx8,hx] at this;exact this
     ·exact Bl l (n+1) h4 ht i hi (by omega)
theorem BC{a:List aT}:∀(l:List aT) (n:Nat),a.drop n=l->zB a l n=0->∀i (hi:i+1<a.length),n<=i+1->Op.bytesLess a[i].Name a[i+1].Name=true
 |[],n,h,_,i,hi,hle=>by
  have:=congrArg List.length h;simp at this;omega
 |x::l,n,h,ht,i,hi,hle=>by
  obtain⟨h1,h2,h3,h4⟩:=iz h;rw[zB] at ht;split at ht
  ·cases ht
  ·split at ht
   ·cases ht
   ·split at ht
    ·cases ht
    ·rename_i hc;by_cases e:n=i+1
     ·subst e
      have hx:x=a[i+1]:=by
       rw[bu8 h1] at h;exact(ag9 h).1.symm
      rw[show decide (0<i+1)=true from rfl,ah9,Bool.not_eq_true] at hc;have:=FS hc;rw[show i+1 - 1=i from rfl,cm9,az9 (by omega),bx8,hx] at this;exact this
     ·exact BC l (n+1) h4 ht i hi (by omega)
theorem rN{f:aZ}(h:vF f=0):f.Texts.length<=30/\f.Numbers.length<=30/\(f.Texts.map (·.Name)).Nodup/\(f.Numbers.map (·.Name)).Nodup:=by
 unfold vF at h;split at h
 ·cases h
 ·split at h
  ·cases h
  ·split at h
   ·cases h
   ·split at h
    ·rename_i a1 a2;split at h
     ·cases h
     ·have b1:jD (f.Texts.map (·.Name)):=Cd fun i hi=>by
       simp only[List.getElem_map];exact Bl f.Texts 0 Y a2 i (by simpa using hi) (by omega)
      have b2:jD (f.Numbers.map (·.Name)):=Cd fun i hi=>by
       simp only[List.getElem_map];exact BC f.Numbers 0 Y h i (by simpa using hi) (by omega)
      exact⟨by omega,by omega,b1.imp nr,b2.imp nr⟩
    ·rename_i h0;exact absurd h h0
theorem Gg{f g:aZ}{l:List bb}{T:List bC}{N:List aT}(hT:T.Perm (Hv f g l))(hN:N.Perm (Hw f g l))(hf:vF f=0)(hx:vF ⟨f.Kind,g.Subject,T,N⟩=0){n:bb}(hn:n∈l):jJ ⟨f.Kind,g.Subject,T,N⟩ n=jJ f n:=by
 obtain⟨_,_,d1,d2⟩:=rN hf;obtain⟨_,_,d3,d4⟩:=rN hx;have hin:=Io.2 hn;unfold jJ;dsimp only at d3 d4 ⊢;rw[ry n _ _ d1,ry n _ _ d3,rz n _ _ d2,rz n _ _ d4]
 have q1:T.find? (fun x=>x.Name==n)=f.Texts.find? (fun x=>x.Name==n):=BU (fun x:bC=>x.Name) d3 d1 fun x e=>by
  rw[hT.mem_iff];unfold Hv;rw[bz8,bz9,bz9];subst e;simp[hin]
 have q2:N.find? (fun x=>x.Name==n)=f.Numbers.find? (fun x=>x.Name==n):=BU (fun x:aT=>x.Name) d4 d2 fun x e=>by
  rw[hN.mem_iff];unfold Hw;rw[bz8,bz9,bz9];subst e;simp[hin]
 rw[q1,q2]
theorem Fi{f g:aZ}{l:List bb}{T:List bC}{N:List aT}(hT:T.Perm (Hv f g l))(hN:N.Perm (Hw f g l))(hf:okTFact' f)(hg:okTFact' g)(h1:g.Texts.length*32<=140737488351232)(h2:g.Numbers.length*24<=140737488351232)(h3:f.Texts.length<=30)(h4:f.Numbers.length<=30):okTFact' ⟨f.Kind,g.Subject,T,N⟩:=by
 have a1:=ab9 (fun x:bC=>!(qi l x.Name)) g.Texts;have a2:=ab9 (fun x:bC=>qi l x.Name) f.Texts;have a3:=ab9 (fun x:aT=>!(qi l x.Name)) g.Numbers;have a4:=ab9 (fun x:aT=>qi l x.Name) f.Numbers;refine⟨hf.1,hg.2.1,fun p hp=>?_,?_,fun p hp=>?_,?_⟩
 ·have:=hT.mem_iff.1 hp;unfold Hv at this;rw[bz8,bz9,bz9] at this;exact this.elim (fun q=>hg.2.2.1 p q.1) fun q=>hf.2.2.1 p q.1
 ·show T.length<=_
  rw[hT.length_eq,iy];unfold Hv;rw[bi8];omega
 ·have:=hN.mem_iff.1 hp;unfold Hw at this;rw[bz8,bz9,bz9] at this;exact this.elim (fun q=>hg.2.2.2.2.1 p q.1) fun q=>hf.2.2.2.2.1 p q.1
 ·show N.length<=_
  rw[hN.length_eq,iy];unfold Hw;rw[bi8];omega
theorem sT{A:(bb->Fd)->Bool}{g g':bb->Option Fd}(h:∀n x,g' n=some x->g n=some x):zI A g->zI A g':=fun⟨v,h1,h2,h3⟩=>⟨v,h1,fun n x hx=>h2 n x (h n x hx),h3⟩
theorem sA{f:aZ}{ns a b:List bb}(h:∀n,n∈b->n∈a)(n:bb)(x:Fd)(hx:py f ns b n=some x):py f ns a n=some x:=by
 unfold py at hx ⊢;split at hx
 ·rename_i c;rw[if_pos ⟨c.1,h n c.2⟩];exact hx
 ·cases hx
def wo(l:List bb)(x:bb):List bb:=l.filter fun y=>!(y==x)
theorem zJ{l:List bb}{x n:bb}:n∈wo l x<->n∈l/\n≠x:=by
 unfold wo;rw[bz9];simp
section
variable(t:Tr)(ok:t.ok)(hz:t.flt=0)(hc:t.cnt<=60)(hg:gU t.lvs)(hw:Az t.lvs=true)(f:aZ)(hf:okTFact' f)(hv:vF f=0)
include ok hz hg hw hv
theorem lS(F:Nat)(hF:t.fu+1000000<=F)(kp:List bb->Option (List bb×Bool×Int)):
  ∀(tl out:List bb) (m:zl),jD (out++tl)->(out++tl).length<=100->KN m->(∀n,aG m n=if n∈out++tl then some (gV (eV f).by_ n) else none)->
   ¬zI (fun v=>(vw (t.tru f) t).truA v) (py f (pd t.lvs) (out++tl))->(∀x,x∈out->zI (fun v=>(vw (t.tru f) t).truA v) (py f (pd t.lvs) (wo (out++tl) x)))->
   ∃res,gS F t.cd (dQ t.lvs) (eV f) (tv (t.tru f)) kp tl m out=kp res/\jD res/\res.length<=100/\¬zI (fun v=>(vw (t.tru f) t).truA v) (py f (pd t.lvs) res)/\∀x,x∈res->zI (fun v=>(vw (t.tru f) t).truA v) (py f (pd t.lvs) (wo res x))
 |[],out,m,hs,hl,_,_,hno,hex=>⟨out,by rw[gS],by simpa using hs,by simpa using hl,by simpa using hno,by simpa using hex⟩
 |x::tl,out,m,hs,hl,hn,hm,hno,hex=>by
  have hnd:(out++x::tl).Nodup:=hs.imp nr
  have hxn:x ∉ out++tl:=by
   have h':=ca9.1 hnd;have h2:=aa9.1 h'.2.1;intro h;rcases bz8.1 h with h|h
   ·exact h'.2.2 x h x (by simp) Y
   ·exact h2.1 h
  have hs2:jD (out++tl):=hs.sublist (List.Sublist.append_left (List.sublist_cons_self x tl) out);have hl2:(out++tl).length<=100:=by simp only[bi8,bx9] at hl ⊢;omega
  have hbt:(tv (t.tru f)==1)=t.tru f:=by cases t.tru f<;>rfl
  have hdel:∀n,aG (di m x) n=if n∈out++tl then some (gV (eV f).by_ n) else none:=fun n=>by
   rw[pu hn,hm];by_cases e:n=x
   ·subst e;simp[hxn]
   ·have:(n∈out++x::tl)<->n∈out++tl:=by simp[e]
    simp only[this,e,if_false]
  obtain⟨by_,ns,m1,kn1,m',kn',r,p1,p2,p3⟩:=CD t ok hz hg hw f hv (t.tru f) (di m x) (out++tl) hdel F (by omega);rw[gS,hbt,p1,by8];dsimp only;rw[p2,by8,aH];dsimp only;cases hr:r with
  |false=>
   rw[if_neg (by simp)];refine lS F hF kp tl out (di m x) hs2 hl2 hn.del hdel (fun h=>?_) (fun y hy=>sT (sA fun n hn'=>?_) (hex y hy))
   ·rw[hr] at p3;exact absurd (p3.2 h) (by simp)
   ·rw[zJ] at hn' ⊢;refine⟨?_,hn'.2⟩;have:=hn'.1;simp only[bz8,as9] at this ⊢;exact this.elim .inl fun h=>.inr (.inr h)
  |true=>
   rw[if_pos rfl,if_pos (by simp only[bi8,bx9,bs9] at hl ⊢;omega)];have hass:out++[x]++tl=out++x::tl:=by simp
   refine lS F hF kp tl (out++[x]) (bM (di m x) x ((aG (eV f).by_ x).getD zV)) (by rw[hass];exact hs) (by rw[hass];exact hl) hn.del.put (fun n=>?_) (by rw[hass];exact hno) (fun y hy=>?_)
   ·rw[cL,hdel];by_cases e:x=n
    ·subst e;simp[gV]
    ·simp[e,Ne.symm e]
   ·rw[hass];rcases bz8.1 hy with hy|hy
    ·exact hex y hy
    ·have e:y=x:=by simpa using hy
     subst e;refine sT (sA fun n hn'=>?_) (p3.1 hr);rw[zJ] at hn';have:=hn'.1;simp only[bz8,as9] at this ⊢;exact this.elim .inl fun h=>h.elim (fun h=>absurd h hn'.2) .inr
include hc hf
theorem Cg(F:Nat)(hF:t.fu+400000000000<=F)(l:List bb)(hs:jD l)(hl:l.length<=100)(hex:∀x,x∈l->zI (fun v=>(vw (t.tru f) t).truA v) (py f (pd t.lvs) (wo l x)))(b:Bool)(e:Int)(k:Option Bool):
  ∀(m j:Nat),j+m=l.length->qt F t.toT f (l,b,e) k m (j:Int)=k
 |0,j,hj=>by rw[qt]
 |m+1,j,hj=>by
  have hn:j<l.length:=by omega
  have w1:bE ((j:Int)+1)=((j+1:Nat):Int):=by rw[cS (by omega) (by omega)];rfl
  have hsub:(l.take j++l.drop (j+1)).Sublist l:=by
   conv=>rhs;rw[<-ch9 j l,bu8 hn]
   exact List.Sublist.append_left (List.sublist_cons_self _ _) _
  have hnd:(l.take j++l[j]::l.drop (j+1)).Nodup:=by
   rw[<-bu8 hn,ch9];exact hs.imp nr
  have hnotin:l[j] ∉ l.take j++l.drop (j+1):=by
   have h':=ca9.1 hnd;have h2:=aa9.1 h'.2.1;intro h;rcases bz8.1 h with h|h
   ·exact h'.2.2 _ h _ ce8 Y
   ·exact h2.1 h
  obtain⟨c,e1,e2⟩:=E5 t ok hz hc hg hw f hf hv (l.take j++l.drop (j+1)) (hs.sublist hsub) (bw9 hsub.length_le (by omega)) F hF;have hcf:c=false:=e2.2 (sT (sA fun n hn'=>zJ.2 ⟨hsub.subset hn',by intro h;rw[h] at hn';exact hnotin hn'⟩) (hex l[j] (bc9 _)));rw[qt];dsimp only;rw[Hd F l (by omega),by8,w1];unfold OQ;rw[if_pos ⟨by omega,by omega,by rw[show(((j+1:Nat):Int)).toNat=j+1 from rfl];omega⟩,by8,show(((j+1:Nat):Int)).toNat=j+1 from rfl,show((j:Int)).toNat=j from rfl,e1,by8,hcf,if_neg (by simp)];exact Cg F hF l hs hl hex b e k m (j+1) (by omega)
omit ok hz hc hg hw hf in
theorem ES{g:aZ}{l:List bb}{T:List bC}{N:List aT}(hT:T.Perm (Hv f g l))(hN:N.Perm (Hw f g l))(hx:vF ⟨f.Kind,g.Subject,T,N⟩=0)(hno:¬zI (fun v=>(vw (t.tru f) t).truA v) (py f (pd t.lvs) l)):t.tru ⟨f.Kind,g.Subject,T,N⟩=t.tru f:=by
 by_cases h:t.tru ⟨f.Kind,g.Subject,T,N⟩=t.tru f
 ·exact h
 ·exfalso
  have h:t.tru ⟨f.Kind,g.Subject,T,N⟩ = !(t.tru f):=by
   cases h1:t.tru ⟨f.Kind,g.Subject,T,N⟩<;>cases h2:t.tru f<;>simp[h1,h2] at h ⊢
  refine hno ⟨jJ ⟨f.Kind,g.Subject,T,N⟩,fun n=>Lq hx n,fun n x hk=>?_,?_⟩
  ·unfold py at hk;split at hk
   ·rename_i c;cases hk;exact Gg hT hN hv hx c.2
   ·cases hk
  ·rw[xQ ⟨f.Kind,g.Subject,T,N⟩ t] at h
   show(vw (t.tru f) t).truA (jJ ⟨f.Kind,g.Subject,T,N⟩)=true
   unfold vw;cases hb:t.tru f with
   |true=>rw[if_pos rfl,xR,h,hb];rfl
   |false=>rw[if_neg (by simp),h,hb];rfl
end
theorem Hm(t:Tr)(ok:t.ok)(h0:vT t=0)(f:aZ)(hf:okTFact' f)(hv:vF f=0)(F:Nat)(hF:t.fu<=F):MQ F t.toT f=some (t.tru f,0):=by
 obtain⟨hz,hc⟩:=Bi h0;unfold MQ;rw[tD t ok F hF,by8,if_neg (by simp[h0]),xk F f hf,by8,if_neg (by simp[hv]),Hc t ok hz hc F hF,by8,Ha,by8,if_pos (Pq t),BO f t ok hz F hF,by8];cases t.tru f<;>rfl
theorem H4(x:aV)(f g:aZ)(hx:v7 x)(hf0:mE f)(hg0:mE g):∃F,M8 F x f g=some true:=by
 obtain⟨t,rfl,ok⟩:=hx;have hf:=sj hf0;have hgf:=sj hg0;obtain⟨hl1,hl2⟩:=yf hg0;refine⟨t.fu+400000000000,?_⟩;generalize hFe:t.fu+400000000000=F;have hF:t.fu+400000000000<=F:=by omega
 have err:∀e:Int,e≠0->Jq F t.toT f=some ([],false,e)->M8 F t.toT f g=some true:=fun e he e1=>by
  unfold M8;rw[e1,by8,if_pos (by simpa using he)];rfl
 by_cases h0:vT t=0;rotate_left
 ·refine err (vT t) h0 ?_;unfold Jq;rw[tD t ok F (by omega),by8,if_pos (by simp[h0])]
 by_cases h1:vF f=0;rotate_left
 ·refine err (vF f) h1 ?_;unfold Jq;rw[tD t ok F (by omega),by8,if_neg (by simp[h0]),xk F f hf,by8,if_pos (by simp[h1])]
 obtain⟨hz,hc⟩:=Bi h0;have hll:=BJ t;have hg:gU t.lvs:=⟨fun l hl=>Aj t hz l hl,by omega⟩;have e33:Hb F t.cd []=some (dQ t.lvs):=Ml t ok hz F (by omega) [] 0 ⟨fun n=>by simp[aG],fun n=>by simp[iF,aG,zQ]⟩ (by omega);have e32:=Hc t ok hz hc F (by omega);cases hw:Az t.lvs with
 |false=>
  refine err 3 (by decide) ?_;unfold Jq;rw[tD t ok F (by omega),by8,if_neg (by simp[h0]),xk F f hf,by8,if_neg (by simp[h1]),e32,by8,e33,by8,Kf F hg,hw,by8,if_pos (by simp)]
 |true=>
  have hl17:=sS hg hw;have hkn:=(yI hg).kn;have hal:(dQ t.lvs).length<=17:=by rw[<-wc];exact hl17
  have hsk:qc (dQ t.lvs)=some (pd t.lvs):=by
   unfold qc
   rw[if_pos ⟨by omega,fun p hp=>by
    obtain⟨l,hl,e⟩:=((yI hg).ke p.1).1 (bo8 hp);have:=Fw (hg.1 l hl).nm;rw[e] at this;omega⟩]
   rfl
  obtain⟨pa1,pa2⟩:=r9 f (dQ t.lvs) [] (by simp[KN])
  -- with all that is named the truth is settled
  have hall:¬zI (fun v=>(vw (t.tru f) t).truA v) (py f (pd t.lvs) (pd t.lvs)):=fun⟨v,v1,v2,v3⟩=>by
   have hsame:t.truA v=t.truA (jJ f):=nE t fun l hl=>by
    have hn:=(rm hg).2 ⟨l,hl,rfl⟩;rw[v2 l.nm (jJ f l.nm) (by unfold py;rw[if_pos ⟨hn,hn⟩])]
   have v3:(vw (t.tru f) t).truA v=true:=v3;rw[xQ] at v3;unfold vw at v3;cases hb:t.truA (jJ f) with
   |true=>rw[hb,if_pos rfl,xR,hsame,hb] at v3;cases v3
   |false=>rw[hb,if_neg (by simp),hsame,hb] at v3;cases v3
  obtain⟨res,q1,q2,q3,q4,q5⟩:=lS t ok hz hg hw f h1 F (by omega) (fun l29=>some (l29,(tv (t.tru f)==1),0)) (pd t.lvs) [] (jt (eV f) (dQ t.lvs) []) (BA hg) (by rw[ad9];omega) pa1 (fun n=>by
   rw[pa2,ad9];have:n∈pd t.lvs<->n∈(dQ t.lvs).map (·.1):=(dg _).mem_iff;simp only[this,aG]) hall (fun x hx=>by simp at hx)
  have hbt:(tv (t.tru f)==1)=t.tru f:=by cases t.tru f<;>rfl
  have a1:Jq F t.toT f=some (res,t.tru f,0):=by
   unfold Jq;rw[tD t ok F (by omega),by8,if_neg (by simp[h0]),xk F f hf,by8,if_neg (by simp[h1]),e32,by8,e33,by8,Kf F hg,hw,by8,if_neg (by simp),Ha,by8,BO f t ok hz F (by omega),by8,kM,fC,hsk,by8,aH];exact q1.trans (by rw[hbt])
  obtain⟨f1,f2,_,_⟩:=rN h1;obtain⟨T,N,e25,pT,pN⟩:=Mw F f g res hl1 hl2 f1 f2;have hxo:=Fi pT pN hf hgf hl1 hl2 f1 f2;have loop:=Cg t ok hz hc hg hw f hf h1 F hF res q2 q3 q5 (t.tru f) 0 (some true) res.length 0 (by omega);rw[show((0:Nat):Int)=0 from rfl] at loop;unfold M8;rw[a1,by8];dsimp only;rw[if_neg (by simp),Hm t ok h0 f hf h1 F (by omega),by8,if_neg (by simp),if_neg (by simp),e25,by8,Mu F _ hxo,by8,aH,aH,show(((res.length:Nat):Int)).toNat=res.length by omega];have hk:((Ou F).bind fun y35=>some y35)=some true:=rfl;rw[hk,loop];by_cases hxv:vF ⟨f.Kind,g.Subject,T,N⟩=0
  ·rw[if_pos (by simpa using hxv),Hm t ok h0 _ hxo hxv F (by omega),by8,if_neg (by simp),if_neg (by rw[ES t f h1 pT pN hxv q4];simp)]
  ·rw[if_neg (by simpa using hxv)]
end Go.Proofs.YtelmfadihfcgnaaGreatDoor
/-
 DERIVED: THE SHELF's CONTRACTS AT THIS DUMP, IN PLAIN WORDS (tools/lay-plain.mjs out of 'TryzShelf.lean', which tools/lay-shelf.mjs wrote): THE SAME DECLARATIONS UNDER THE SAME NAMES: 'import', 'namespace', 'open', 'def', 'theorem' AND NOTHING ELSE: no command of the shelf's: FOR A HAND-IN. Each laying: the table of numbers ('.._ren') and one theorem, a field a fact of the dump's own or the kernel's comparison; each contract: ONE APPLICATION.
-/
namespace Go.Proofs
open Go.Shelf
def Tryz.lays172_ren:Go.Shelf.Ren:=⟨fun|172=>197|244=>226|245=>227|247=>241|279=>242|280=>243|281=>244|282=>245|287=>248|316=>249|171=>251|205=>250|321=>252|322=>253|243=>254|246=>255|283=>256|284=>257|285=>258|286=>259|129=>162|317=>260|318=>261|319=>262|320=>263|337=>264|338=>265|n=>n,fun|9=>9|3=>3|75=>261|76=>262|4=>4|5=>5|167=>291|37=>257|0=>0|85=>292|2=>2|168=>294|53=>239|175=>299|46=>194|210=>303|127=>307|145=>310|143=>308|21=>21|171=>312|173=>314|212=>317|51=>237|20=>20|213=>318|232=>319|233=>320|80=>218|n=>n,fun|15=>1|16=>2|17=>3|18=>4|19=>5|n=>n⟩
theorem Tryz.lays172:Go.Proofs.Lays.n172 Tryz.prog Tryz.lays172_ren:={
 mixed:=by kernel_rfl
 f129:=Tryz.func162.trans (congrArg some (by kernel_rfl))
 f171:=Tryz.func251.trans (congrArg some (by kernel_rfl))
 f172:=Tryz.func197.trans (congrArg some (by kernel_rfl))
 f205:=Tryz.func250.trans (congrArg some (by kernel_rfl))
 f243:=Tryz.func254.trans (congrArg some (by kernel_rfl))
 f244:=Tryz.func226.trans (congrArg some (by kernel_rfl))
 f245:=Tryz.func227.trans (congrArg some (by kernel_rfl))
 f246:=Tryz.func255.trans (congrArg some (by kernel_rfl))
 f247:=Tryz.func241.trans (congrArg some (by kernel_rfl))
 f279:=Tryz.func242.trans (congrArg some (by kernel_rfl))
 f280:=Tryz.func243.trans (congrArg some (by kernel_rfl))
 f281:=Tryz.func244.trans (congrArg some (by kernel_rfl))
 f282:=Tryz.func245.trans (congrArg some (by kernel_rfl))
 f283:=Tryz.func256.trans (congrArg some (by kernel_rfl))
 f284:=Tryz.func257.trans (congrArg some (by kernel_rfl))
 f285:=Tryz.func258.trans (congrArg some (by kernel_rfl))
 f286:=Tryz.func259.trans (congrArg some (by kernel_rfl))
 f287:=Tryz.func248.trans (congrArg some (by kernel_rfl))
 f316:=Tryz.func249.trans (congrArg some (by kernel_rfl))
 f317:=Tryz.func260.trans (congrArg some (by kernel_rfl))
 f318:=Tryz.func261.trans (congrArg some (by kernel_rfl))
 f319:=Tryz.func262.trans (congrArg some (by kernel_rfl))
 f320:=Tryz.func263.trans (congrArg some (by kernel_rfl))
 f321:=Tryz.func252.trans (congrArg some (by kernel_rfl))
 f322:=Tryz.func253.trans (congrArg some (by kernel_rfl))
 f337:=Tryz.func264.trans (congrArg some (by kernel_rfl))
 f338:=Tryz.func265.trans (congrArg some (by kernel_rfl))
 t0:=Tryz.underlying0
 a0:=Tryz.isAgg0
 z0:=Tryz.sizeOf0
 v0:=Tryz.zeroValue0
 t2:=Tryz.underlying2
 a2:=Tryz.isAgg2
 z2:=Tryz.sizeOf2
 v2:=Tryz.zeroValue2
 t3:=Tryz.underlying3
 a3:=Tryz.isAgg3
 z3:=Tryz.sizeOf3
 v3:=Tryz.zeroValue3
 t4:=Tryz.underlying4
 a4:=Tryz.isAgg4
 z4:=Tryz.sizeOf4
 v4:=Tryz.zeroValue4
 t5:=Tryz.underlying5
 a5:=Tryz.isAgg5
 z5:=Tryz.sizeOf5
 v5:=Tryz.zeroValue5
 t9:=Tryz.underlying9
 a9:=Tryz.isAgg9
 z9:=Tryz.sizeOf9
 v9:=Tryz.zeroValue9
 t20:=Tryz.underlying20
 a20:=Tryz.isAgg20
 z20:=Tryz.sizeOf20
 v20:=Tryz.zeroValue20
 t21:=Tryz.underlying21
 a21:=Tryz.isAgg21
 z21:=Tryz.sizeOf21
 v21:=Tryz.zeroValue21
 t37:=Tryz.underlying257
 a37:=Tryz.isAgg257
 z37:=Tryz.sizeOf257
 v37:=Tryz.zeroValue257
 t46:=Tryz.underlying194
 a46:=Tryz.isAgg194
 z46:=Tryz.sizeOf194
 v46:=Tryz.zeroValue194
 t51:=Tryz.underlying237
 a51:=Tryz.isAgg237
 z51:=Tryz.sizeOf237
 v51:=Tryz.zeroValue237
 t53:=Tryz.underlying239
 a53:=Tryz.isAgg239
 z53:=Tryz.sizeOf239
 v53:=Tryz.zeroValue239
 t75:=Tryz.underlying261
 a75:=Tryz.isAgg261
 z75:=Tryz.sizeOf261
 v75:=Tryz.zeroValue261
 t76:=Tryz.underlying262
 a76:=Tryz.isAgg262
 z76:=Tryz.sizeOf262
 v76:=Tryz.zeroValue262
 t85:=Tryz.underlying292
 a85:=Tryz.isAgg292
 z85:=Tryz.sizeOf292
 v85:=Tryz.zeroValue292
 t127:=Tryz.underlying307
 a127:=Tryz.isAgg307
 z127:=Tryz.sizeOf307
 v127:=Tryz.zeroValue307
 t143:=Tryz.underlying308
 a143:=Tryz.isAgg308
 z143:=Tryz.sizeOf308
 v143:=Tryz.zeroValue308
 t145:=Tryz.underlying310
 a145:=Tryz.isAgg310
 z145:=Tryz.sizeOf310
 v145:=Tryz.zeroValue310
 t167:=Tryz.underlying291
 a167:=Tryz.isAgg291
 z167:=Tryz.sizeOf291
 v167:=Tryz.zeroValue291
 t168:=Tryz.underlying294
 a168:=Tryz.isAgg294
 z168:=Tryz.sizeOf294
 v168:=Tryz.zeroValue294
 t171:=Tryz.underlying312
 a171:=Tryz.isAgg312
 z171:=Tryz.sizeOf312
 v171:=Tryz.zeroValue312
 t173:=Tryz.underlying314
 a173:=Tryz.isAgg314
 z173:=Tryz.sizeOf314
 v173:=Tryz.zeroValue314
 t175:=Tryz.underlying299
 a175:=Tryz.isAgg299
 z175:=Tryz.sizeOf299
 v175:=Tryz.zeroValue299
 t210:=Tryz.underlying303
 a210:=Tryz.isAgg303
 z210:=Tryz.sizeOf303
 v210:=Tryz.zeroValue303
 t212:=Tryz.underlying317
 a212:=Tryz.isAgg317
 z212:=Tryz.sizeOf317
 v212:=Tryz.zeroValue317
 t213:=Tryz.underlying318
 a213:=Tryz.isAgg318
 z213:=Tryz.sizeOf318
 t232:=Tryz.underlying319
 a232:=Tryz.isAgg319
 z232:=Tryz.sizeOf319
 v232:=Tryz.zeroValue319
 t233:=Tryz.underlying320
 a233:=Tryz.isAgg320
 z233:=Tryz.sizeOf320
 v233:=Tryz.zeroValue320
 g15:=by kernel_rfl
 g16:=by kernel_rfl
 g17:=by kernel_rfl
 g18:=by kernel_rfl
 g19:=by kernel_rfl }
open Go.RowKit in
theorem Tryz.strconv_Atoi(s:ByteArray)(n:Int)(hl:s.size<=18)(h:Lib.atoi s.data.toList=some n)(w:World):
  Calls Tryz.prog 197 #[.string s] w fun e w'=>e=.returned (.tuple #[.int .i64 n,.nilIface])/\∃t,w'=Lib.bytesWorld w 5 t:=Any.strconv_Atoi Tryz.lays172 s n hl h w
def Tryz.lays189_ren:Go.Shelf.Ren:=⟨fun|189=>59|125=>115|257=>114|128=>161|129=>162|294=>152|295=>153|296=>154|297=>155|298=>156|299=>157|216=>158|300=>159|301=>160|328=>208|329=>209|330=>210|331=>211|332=>212|215=>213|343=>233|n=>n,fun|28=>51|3=>3|46=>194|0=>0|51=>237|53=>239|4=>4|183=>230|182=>229|131=>124|5=>5|9=>9|218=>269|222=>273|228=>284|229=>144|n=>n,fun|n=>n⟩
theorem Tryz.lays189:Go.Proofs.Lays.n189 Tryz.prog Tryz.lays189_ren:={
 mixed:=by kernel_rfl
 f125:=Tryz.func115.trans (congrArg some (by kernel_rfl))
 f128:=Tryz.func161.trans (congrArg some (by kernel_rfl))
 f129:=Tryz.func162.trans (congrArg some (by kernel_rfl))
 f189:=Tryz.func59.trans (congrArg some (by kernel_rfl))
 f215:=Tryz.func213.trans (congrArg some (by kernel_rfl))
 f216:=Tryz.func158.trans (congrArg some (by kernel_rfl))
 f257:=Tryz.func114.trans (congrArg some (by kernel_rfl))
 f294:=Tryz.func152.trans (congrArg some (by kernel_rfl))
 f295:=Tryz.func153.trans (congrArg some (by kernel_rfl))
 f296:=Tryz.func154.trans (congrArg some (by kernel_rfl))
 f297:=Tryz.func155.trans (congrArg some (by kernel_rfl))
 f298:=Tryz.func156.trans (congrArg some (by kernel_rfl))
 f299:=Tryz.func157.trans (congrArg some (by kernel_rfl))
 f300:=Tryz.func159.trans (congrArg some (by kernel_rfl))
 f301:=Tryz.func160.trans (congrArg some (by kernel_rfl))
 f328:=Tryz.func208.trans (congrArg some (by kernel_rfl))
 f329:=Tryz.func209.trans (congrArg some (by kernel_rfl))
 f330:=Tryz.func210.trans (congrArg some (by kernel_rfl))
 f331:=Tryz.func211.trans (congrArg some (by kernel_rfl))
 f332:=Tryz.func212.trans (congrArg some (by kernel_rfl))
 f343:=Tryz.func233.trans (congrArg some (by kernel_rfl))
 t0:=Tryz.underlying0
 a0:=Tryz.isAgg0
 z0:=Tryz.sizeOf0
 v0:=Tryz.zeroValue0
 t3:=Tryz.underlying3
 a3:=Tryz.isAgg3
 z3:=Tryz.sizeOf3
 v3:=Tryz.zeroValue3
 t4:=Tryz.underlying4
 a4:=Tryz.isAgg4
 z4:=Tryz.sizeOf4
 v4:=Tryz.zeroValue4
 t5:=Tryz.underlying5
 a5:=Tryz.isAgg5
 z5:=Tryz.sizeOf5
 v5:=Tryz.zeroValue5
 t9:=Tryz.underlying9
 a9:=Tryz.isAgg9
 z9:=Tryz.sizeOf9
 v9:=Tryz.zeroValue9
 t28:=Tryz.underlying51
 a28:=Tryz.isAgg51
 z28:=Tryz.sizeOf51
 v28:=Tryz.zeroValue51
 t46:=Tryz.underlying194
 a46:=Tryz.isAgg194
 z46:=Tryz.sizeOf194
 v46:=Tryz.zeroValue194
 t51:=Tryz.underlying237
 a51:=Tryz.isAgg237
 z51:=Tryz.sizeOf237
 v51:=Tryz.zeroValue237
 t53:=Tryz.underlying239
 a53:=Tryz.isAgg239
 z53:=Tryz.sizeOf239
 v53:=Tryz.zeroValue239
 t131:=Tryz.underlying124
 a131:=Tryz.isAgg124
 z131:=Tryz.sizeOf124
 v131:=Tryz.zeroValue124
 t182:=Tryz.underlying229
 a182:=Tryz.isAgg229
 z182:=Tryz.sizeOf229
 v182:=Tryz.zeroValue229
 t183:=Tryz.underlying230
 a183:=Tryz.isAgg230
 z183:=Tryz.sizeOf230
 v183:=Tryz.zeroValue230
 t218:=Tryz.underlying269
 a218:=Tryz.isAgg269
 z218:=Tryz.sizeOf269
 v218:=Tryz.zeroValue269
 t222:=Tryz.underlying273
 a222:=Tryz.isAgg273
 z222:=Tryz.sizeOf273
 v222:=Tryz.zeroValue273
 t228:=Tryz.underlying284
 a228:=Tryz.isAgg284
 z228:=Tryz.sizeOf284
 v228:=Tryz.zeroValue284
 t229:=Tryz.underlying144
 a229:=Tryz.isAgg144
 z229:=Tryz.sizeOf144
 v229:=Tryz.zeroValue144 }
open Go.Sort Go.RowKit in
theorem Tryz.slices_Sort_int(blk off cap:Nat)(zs:List Int)(w:World)(hH:Holds (Value.int .i64) w blk off zs.toArray)(hblk:blk<w.heap.size)(hsz:zs.length<4611686018427387904):
  Calls Tryz.prog 59 #[.slice (some ⟨blk,off,none⟩) zs.length cap] w fun e w'=>
   e=.returned (.tuple #[])/\∃n os,w'=grow (putRow (Value.int .i64) (Sort.ahead w n) blk off (zs.mergeSort fun x y=>decide (x<=y)).toArray) os:=Any.slices_Sort_int Tryz.lays189 blk off cap zs w hH hblk hsz
def Tryz.lays190_ren:Go.Shelf.Ren:=⟨fun|190=>109|125=>115|258=>146|128=>161|129=>162|302=>198|303=>199|304=>200|305=>201|306=>202|307=>203|308=>204|309=>205|310=>206|333=>228|329=>209|330=>210|334=>229|335=>230|336=>231|344=>246|n=>n,fun|31=>22|9=>9|3=>3|46=>194|0=>0|51=>237|53=>239|4=>4|183=>230|182=>229|131=>124|5=>5|218=>269|222=>273|228=>284|229=>144|n=>n,fun|n=>n⟩
theorem Tryz.lays190:Go.Proofs.Lays.n190 Tryz.prog Tryz.lays190_ren:={
 mixed:=by kernel_rfl
 f125:=Tryz.func115.trans (congrArg some (by kernel_rfl))
 f128:=Tryz.func161.trans (congrArg some (by kernel_rfl))
 f129:=Tryz.func162.trans (congrArg some (by kernel_rfl))
 f190:=Tryz.func109.trans (congrArg some (by kernel_rfl))
 f258:=Tryz.func146.trans (congrArg some (by kernel_rfl))
 f302:=Tryz.func198.trans (congrArg some (by kernel_rfl))
 f303:=Tryz.func199.trans (congrArg some (by kernel_rfl))
 f304:=Tryz.func200.trans (congrArg some (by kernel_rfl))
 f305:=Tryz.func201.trans (congrArg some (by kernel_rfl))
 f306:=Tryz.func202.trans (congrArg some (by kernel_rfl))
 f307:=Tryz.func203.trans (congrArg some (by kernel_rfl))
 f308:=Tryz.func204.trans (congrArg some (by kernel_rfl))
 f309:=Tryz.func205.trans (congrArg some (by kernel_rfl))
 f310:=Tryz.func206.trans (congrArg some (by kernel_rfl))
 f329:=Tryz.func209.trans (congrArg some (by kernel_rfl))
 f330:=Tryz.func210.trans (congrArg some (by kernel_rfl))
 f333:=Tryz.func228.trans (congrArg some (by kernel_rfl))
 f334:=Tryz.func229.trans (congrArg some (by kernel_rfl))
 f335:=Tryz.func230.trans (congrArg some (by kernel_rfl))
 f336:=Tryz.func231.trans (congrArg some (by kernel_rfl))
 f344:=Tryz.func246.trans (congrArg some (by kernel_rfl))
 t0:=Tryz.underlying0
 a0:=Tryz.isAgg0
 z0:=Tryz.sizeOf0
 v0:=Tryz.zeroValue0
 t3:=Tryz.underlying3
 a3:=Tryz.isAgg3
 z3:=Tryz.sizeOf3
 v3:=Tryz.zeroValue3
 t4:=Tryz.underlying4
 a4:=Tryz.isAgg4
 z4:=Tryz.sizeOf4
 v4:=Tryz.zeroValue4
 t5:=Tryz.underlying5
 a5:=Tryz.isAgg5
 z5:=Tryz.sizeOf5
 v5:=Tryz.zeroValue5
 t9:=Tryz.underlying9
 a9:=Tryz.isAgg9
 z9:=Tryz.sizeOf9
 v9:=Tryz.zeroValue9
 t31:=Tryz.underlying22
 a31:=Tryz.isAgg22
 z31:=Tryz.sizeOf22
 v31:=Tryz.zeroValue22
 t46:=Tryz.underlying194
 a46:=Tryz.isAgg194
 z46:=Tryz.sizeOf194
 v46:=Tryz.zeroValue194
 t51:=Tryz.underlying237
 a51:=Tryz.isAgg237
 z51:=Tryz.sizeOf237
 v51:=Tryz.zeroValue237
 t53:=Tryz.underlying239
 a53:=Tryz.isAgg239
 z53:=Tryz.sizeOf239
 v53:=Tryz.zeroValue239
 t131:=Tryz.underlying124
 a131:=Tryz.isAgg124
 z131:=Tryz.sizeOf124
 v131:=Tryz.zeroValue124
 t182:=Tryz.underlying229
 a182:=Tryz.isAgg229
 z182:=Tryz.sizeOf229
 v182:=Tryz.zeroValue229
 t183:=Tryz.underlying230
 a183:=Tryz.isAgg230
 z183:=Tryz.sizeOf230
 v183:=Tryz.zeroValue230
 t218:=Tryz.underlying269
 a218:=Tryz.isAgg269
 z218:=Tryz.sizeOf269
 v218:=Tryz.zeroValue269
 t222:=Tryz.underlying273
 a222:=Tryz.isAgg273
 z222:=Tryz.sizeOf273
 v222:=Tryz.zeroValue273
 t228:=Tryz.underlying284
 a228:=Tryz.isAgg284
 z228:=Tryz.sizeOf284
 v228:=Tryz.zeroValue284
 t229:=Tryz.underlying144
 a229:=Tryz.isAgg144
 z229:=Tryz.sizeOf144
 v229:=Tryz.zeroValue144 }
open Go.Sort Go.RowKit in
theorem Tryz.slices_Sort_string(blk off cap:Nat)(ss:List (List UInt8))(w:World)(hH:Holds encStr w blk off ss.toArray)(hblk:blk<w.heap.size)(hsz:ss.length<4611686018427387904):
  Calls Tryz.prog 109 #[.slice (some ⟨blk,off,none⟩) ss.length cap] w fun e w'=>
   e=.returned (.tuple #[])/\∃n os,w'=grow (putRow encStr (Sort.ahead w n) blk off (ss.mergeSort fun x y=>decide (x<=y)).toArray) os:=Any.slices_Sort_string Tryz.lays190 blk off cap ss w hH hblk hsz
def Tryz.laysNm220_ren:Go.Shelf.Ren:=⟨fun|20=>186|n=>n,fun|22=>51|3=>3|4=>4|0=>0|n=>n,fun|n=>n⟩
theorem Tryz.laysNm220:Go.Proofs.Lays2.n20 Tryz.prog Tryz.laysNm220_ren:={
 mixed:=by kernel_rfl
 f20:=Tryz.func186.trans (congrArg some (by kernel_rfl))
 t0:=Tryz.underlying0
 a0:=Tryz.isAgg0
 z0:=Tryz.sizeOf0
 v0:=Tryz.zeroValue0
 t3:=Tryz.underlying3
 a3:=Tryz.isAgg3
 z3:=Tryz.sizeOf3
 v3:=Tryz.zeroValue3
 t4:=Tryz.underlying4
 a4:=Tryz.isAgg4
 z4:=Tryz.sizeOf4
 v4:=Tryz.zeroValue4
 t22:=Tryz.underlying51
 a22:=Tryz.isAgg51
 z22:=Tryz.sizeOf51
 v22:=Tryz.zeroValue51
 i3:=by kernel_rfl }
open Go.RowKit Go.Lib Go.Sort in
theorem Tryz.slices_Compact_int(blk off cap:Nat)(zs:List Int)(w:World)(hH:Holds (Value.int .i64) w blk off zs.toArray)(hsz:zs.length<=9223372036854775807)(hcap:zs.length<=cap):
  Calls Tryz.prog 186 #[.slice (some ⟨blk,off,none⟩) zs.length cap] w fun e w'=>e=.returned (.slice (some ⟨blk,off,none⟩) (Lib.compact zs).length cap)/\∃q,w'=putRow (Value.int .i64) (Sort.ahead w q) blk off (Lib.compact zs++List.replicate (zs.length - (Lib.compact zs).length) 0).toArray:=Any.slices_Compact_int Tryz.laysNm220 blk off cap zs w hH hsz hcap
open Go.RowKit Go.Lib Go.Sort in
theorem Tryz.slices_Compact_int_empty(a:Option Addr)(cap:Nat)(w:World):
  Calls Tryz.prog 186 #[.slice a 0 cap] w fun e w'=>e=.returned (.slice a 0 cap)/\w'=w:=Any.slices_Compact_int_empty Tryz.laysNm220 a cap w
def Tryz.lays194_ren:Go.Shelf.Ren:=⟨fun|194=>188|n=>n,fun|31=>22|9=>9|3=>3|4=>4|0=>0|n=>n,fun|n=>n⟩
theorem Tryz.lays194:Go.Proofs.Lays.n194 Tryz.prog Tryz.lays194_ren:={
 mixed:=by kernel_rfl
 f194:=Tryz.func188.trans (congrArg some (by kernel_rfl))
 t0:=Tryz.underlying0
 a0:=Tryz.isAgg0
 z0:=Tryz.sizeOf0
 v0:=Tryz.zeroValue0
 t3:=Tryz.underlying3
 a3:=Tryz.isAgg3
 z3:=Tryz.sizeOf3
 v3:=Tryz.zeroValue3
 t4:=Tryz.underlying4
 a4:=Tryz.isAgg4
 z4:=Tryz.sizeOf4
 v4:=Tryz.zeroValue4
 t9:=Tryz.underlying9
 a9:=Tryz.isAgg9
 z9:=Tryz.sizeOf9
 v9:=Tryz.zeroValue9
 t31:=Tryz.underlying22
 a31:=Tryz.isAgg22
 z31:=Tryz.sizeOf22
 v31:=Tryz.zeroValue22 }
open Go.RowKit Go.Lib Go.Sort in
theorem Tryz.slices_Compact_string(blk off cap:Nat)(zs:List (List UInt8))(w:World)(hH:Holds encStr w blk off zs.toArray)(hsz:zs.length<=9223372036854775807)(hcap:zs.length<=cap):
  Calls Tryz.prog 188 #[.slice (some ⟨blk,off,none⟩) zs.length cap] w fun e w'=>e=.returned (.slice (some ⟨blk,off,none⟩) (Lib.compact zs).length cap)/\∃q,w'=putRow encStr (Sort.ahead w q) blk off (Lib.compact zs++List.replicate (zs.length - (Lib.compact zs).length) []).toArray:=Any.slices_Compact_string Tryz.lays194 blk off cap zs w hH hsz hcap
open Go.RowKit Go.Lib Go.Sort in
theorem Tryz.slices_Compact_string_empty(a:Option Addr)(cap:Nat)(w:World):
  Calls Tryz.prog 188 #[.slice a 0 cap] w fun e w'=>e=.returned (.slice a 0 cap)/\w'=w:=Any.slices_Compact_string_empty Tryz.lays194 a cap w
def Tryz.laysNm224_ren:Go.Shelf.Ren:=⟨fun|24=>28|n=>n,fun|24=>22|9=>9|3=>3|4=>4|0=>0|n=>n,fun|n=>n⟩
theorem Tryz.laysNm224:Go.Proofs.Lays2.n24 Tryz.prog Tryz.laysNm224_ren:={
 mixed:=by kernel_rfl
 f24:=Tryz.func28.trans (congrArg some (by kernel_rfl))
 t0:=Tryz.underlying0
 a0:=Tryz.isAgg0
 z0:=Tryz.sizeOf0
 v0:=Tryz.zeroValue0
 t3:=Tryz.underlying3
 a3:=Tryz.isAgg3
 z3:=Tryz.sizeOf3
 v3:=Tryz.zeroValue3
 t4:=Tryz.underlying4
 a4:=Tryz.isAgg4
 z4:=Tryz.sizeOf4
 v4:=Tryz.zeroValue4
 t9:=Tryz.underlying9
 a9:=Tryz.isAgg9
 z9:=Tryz.sizeOf9
 v9:=Tryz.zeroValue9
 t24:=Tryz.underlying22
 a24:=Tryz.isAgg22
 z24:=Tryz.sizeOf22
 v24:=Tryz.zeroValue22
 i9:=by kernel_rfl }
open Go.RowKit Go.Lib Go.Sort in
theorem Tryz.slices_Delete_string_arr(blk off cap i j:Nat)(d:Array (List UInt8))(w:World)(hH:Holds encStr w blk off d)(hcap:d.size<=cap)(hm:cap<=9223372036854775807)(hij:i<=j)(hj:j<=d.size):
  Calls Tryz.prog 28 #[.slice (some ⟨blk,off,none⟩) d.size cap,.int .i64 i,.int .i64 j] w fun e w'=>e=.returned (.slice (some ⟨blk,off,none⟩) (d.size - (j - i)) cap)/\∃q,w'=putRow encStr (Sort.ahead w q) blk off (d.toList.take i++d.toList.drop j++List.replicate (j - i) []).toArray:=Any.slices_Delete_string_arr Tryz.laysNm224 blk off cap i j d w hH hcap hm hij hj
open Go.RowKit Go.Sort in
theorem Tryz.slices_Sort_string_none(p:Option Addr)(cap:Nat)(w:World):
  Calls Tryz.prog 109 #[.slice p 0 cap] w fun e w'=>e=.returned (.tuple #[])/\w'=w:=Any.slices_Sort_string_none Tryz.lays190 p cap w
open Go.RowKit Go.Sort in
theorem Tryz.slices_Sort_int_none(p:Option Addr)(cap:Nat)(w:World):
  Calls Tryz.prog 59 #[.slice p 0 cap] w fun e w'=>e=.returned (.tuple #[])/\w'=w:=Any.slices_Sort_int_none Tryz.lays189 p cap w
def Tryz.laysSlF06_f75_ren:Go.Shelf.Ren:=⟨fun|6=>75|15=>115|14=>122|28=>161|29=>162|20=>167|21=>168|22=>169|23=>170|24=>171|25=>172|26=>173|27=>174|46=>215|47=>209|48=>210|49=>216|50=>217|57=>235|n=>n,fun|22=>26|24=>39|25=>129|3=>3|39=>194|0=>0|53=>237|55=>239|4=>4|46=>230|45=>229|50=>124|5=>5|9=>9|66=>269|70=>273|76=>284|77=>144|n=>n,fun|n=>n⟩
theorem Tryz.laysSlF06_f75:Go.Proofs.SlLaysF0.n6 Tryz.prog Tryz.laysSlF06_f75_ren:={
 mixed:=by kernel_rfl
 f6:=⟨Tryz.f75.name,by decide,Tryz.func75.trans (congrArg some (by kernel_rfl))⟩
 f14:=⟨Tryz.f122.name,by decide,Tryz.func122.trans (congrArg some (by kernel_rfl))⟩
 f15:=Tryz.func115.trans (congrArg some (by kernel_rfl))
 f20:=⟨Tryz.f167.name,by decide,Tryz.func167.trans (congrArg some (by kernel_rfl))⟩
 f21:=⟨Tryz.f168.name,by decide,Tryz.func168.trans (congrArg some (by kernel_rfl))⟩
 f22:=⟨Tryz.f169.name,by decide,Tryz.func169.trans (congrArg some (by kernel_rfl))⟩
 f23:=⟨Tryz.f170.name,by decide,Tryz.func170.trans (congrArg some (by kernel_rfl))⟩
 f24:=⟨Tryz.f171.name,by decide,Tryz.func171.trans (congrArg some (by kernel_rfl))⟩
 f25:=⟨Tryz.f172.name,by decide,Tryz.func172.trans (congrArg some (by kernel_rfl))⟩
 f26:=⟨Tryz.f173.name,by decide,Tryz.func173.trans (congrArg some (by kernel_rfl))⟩
 f27:=⟨Tryz.f174.name,by decide,Tryz.func174.trans (congrArg some (by kernel_rfl))⟩
 f28:=Tryz.func161.trans (congrArg some (by kernel_rfl))
 f29:=Tryz.func162.trans (congrArg some (by kernel_rfl))
 f46:=⟨Tryz.f215.name,by decide,Tryz.func215.trans (congrArg some (by kernel_rfl))⟩
 f47:=Tryz.func209.trans (congrArg some (by kernel_rfl))
 f48:=Tryz.func210.trans (congrArg some (by kernel_rfl))
 f49:=⟨Tryz.f216.name,by decide,Tryz.func216.trans (congrArg some (by kernel_rfl))⟩
 f50:=⟨Tryz.f217.name,by decide,Tryz.func217.trans (congrArg some (by kernel_rfl))⟩
 f57:=⟨Tryz.f235.name,by decide,Tryz.func235.trans (congrArg some (by kernel_rfl))⟩
 t0:=Tryz.underlying0
 a0:=Tryz.isAgg0
 z0:=Tryz.sizeOf0
 v0:=Tryz.zeroValue0
 t3:=Tryz.underlying3
 a3:=Tryz.isAgg3
 z3:=Tryz.sizeOf3
 v3:=Tryz.zeroValue3
 t4:=Tryz.underlying4
 a4:=Tryz.isAgg4
 z4:=Tryz.sizeOf4
 v4:=Tryz.zeroValue4
 t5:=Tryz.underlying5
 a5:=Tryz.isAgg5
 z5:=Tryz.sizeOf5
 v5:=Tryz.zeroValue5
 t9:=Tryz.underlying9
 a9:=Tryz.isAgg9
 z9:=Tryz.sizeOf9
 v9:=Tryz.zeroValue9
 t22:=Tryz.underlying26
 a22:=Tryz.isAgg26
 z22:=Tryz.sizeOf26
 v22:=Tryz.zeroValue26
 t25:=Tryz.underlying129
 a25:=Tryz.isAgg129
 z25:=Tryz.sizeOf129
 v25:=Tryz.zeroValue129
 t39:=Tryz.underlying194
 a39:=Tryz.isAgg194
 z39:=Tryz.sizeOf194
 v39:=Tryz.zeroValue194
 t45:=Tryz.underlying229
 a45:=Tryz.isAgg229
 z45:=Tryz.sizeOf229
 v45:=Tryz.zeroValue229
 t46:=Tryz.underlying230
 a46:=Tryz.isAgg230
 z46:=Tryz.sizeOf230
 v46:=Tryz.zeroValue230
 t50:=Tryz.underlying124
 a50:=Tryz.isAgg124
 z50:=Tryz.sizeOf124
 v50:=Tryz.zeroValue124
 t53:=Tryz.underlying237
 a53:=Tryz.isAgg237
 z53:=Tryz.sizeOf237
 v53:=Tryz.zeroValue237
 t55:=Tryz.underlying239
 a55:=Tryz.isAgg239
 z55:=Tryz.sizeOf239
 v55:=Tryz.zeroValue239
 t66:=Tryz.underlying269
 a66:=Tryz.isAgg269
 z66:=Tryz.sizeOf269
 v66:=Tryz.zeroValue269
 t70:=Tryz.underlying273
 a70:=Tryz.isAgg273
 z70:=Tryz.sizeOf273
 v70:=Tryz.zeroValue273
 t76:=Tryz.underlying284
 a76:=Tryz.isAgg284
 z76:=Tryz.sizeOf284
 v76:=Tryz.zeroValue284
 t77:=Tryz.underlying144
 a77:=Tryz.isAgg144
 z77:=Tryz.sizeOf144
 v77:=Tryz.zeroValue144 }
open Go.RowKit Go.Lib Go.Sort in
theorem Tryz.slices_SortFunc_eq_f75{α:Type}[Inhabited α](k:Nat)(aE:∀w,(isAgg (Tryz.laysSlF06_f75_ren.t 24)).run Tryz.prog w=.ok true w)(zE:∀w,(Go.sizeOf (Tryz.laysSlF06_f75_ren.t 24)).run Tryz.prog w=.ok k w)(enc:α->List Value)(hk:∀x,(enc x).length=k)(h1:∀x,∀v∈enc x,v.oneCell'=true)(cf:α->α->Int)(hO:SWO (ltOf cf))(g:Nat)(cb:Array Value)(blk off cap:Nat)(d:Array α)(w:World)(eg:∀args w,(callFunc g args).run Tryz.prog w=.ok (.enter g args) w)(hcmp:CmpLays Tryz.prog g cb enc k cf blk off d.size w)(hH:HoldsK enc k w blk off d)(hblk:blk<w.heap.size)(hsz:d.size<4611686018427387904):
  Calls Tryz.prog 75 #[.slice (some ⟨blk,off,none⟩) d.size cap,.func (.func g) #[] cb] w fun e w'=>
   e=.returned (.tuple #[])/\∃n os,w'=sortWorldK enc k w blk off n (pdq (ltOf cf) d 0 d.size (Lib.bitLen d.size) true true) os:=AnyQ.slices_SortFunc_eq Tryz.laysSlF06_f75 k aE zE enc hk h1 cf hO g cb blk off cap d w eg hcmp hH hblk hsz
def Tryz.laysSlF06_f77_ren:Go.Shelf.Ren:=⟨fun|6=>77|15=>115|14=>123|28=>161|29=>162|20=>175|21=>176|22=>177|23=>178|24=>179|25=>180|26=>181|27=>182|46=>218|47=>209|48=>210|49=>219|50=>220|57=>236|n=>n,fun|22=>27|24=>41|25=>131|3=>3|39=>194|0=>0|53=>237|55=>239|4=>4|46=>230|45=>229|50=>124|5=>5|9=>9|66=>269|70=>273|76=>284|77=>144|n=>n,fun|n=>n⟩
theorem Tryz.laysSlF06_f77:Go.Proofs.SlLaysF0.n6 Tryz.prog Tryz.laysSlF06_f77_ren:={
 mixed:=by kernel_rfl
 f6:=⟨Tryz.f77.name,by decide,Tryz.func77.trans (congrArg some (by kernel_rfl))⟩
 f14:=⟨Tryz.f123.name,by decide,Tryz.func123.trans (congrArg some (by kernel_rfl))⟩
 f15:=Tryz.func115.trans (congrArg some (by kernel_rfl))
 f20:=⟨Tryz.f175.name,by decide,Tryz.func175.trans (congrArg some (by kernel_rfl))⟩
 f21:=⟨Tryz.f176.name,by decide,Tryz.func176.trans (congrArg some (by kernel_rfl))⟩
 f22:=⟨Tryz.f177.name,by decide,Tryz.func177.trans (congrArg some (by kernel_rfl))⟩
 f23:=⟨Tryz.f178.name,by decide,Tryz.func178.trans (congrArg some (by kernel_rfl))⟩
 f24:=⟨Tryz.f179.name,by decide,Tryz.func179.trans (congrArg some (by kernel_rfl))⟩
 f25:=⟨Tryz.f180.name,by decide,Tryz.func180.trans (congrArg some (by kernel_rfl))⟩
 f26:=⟨Tryz.f181.name,by decide,Tryz.func181.trans (congrArg some (by kernel_rfl))⟩
 f27:=⟨Tryz.f182.name,by decide,Tryz.func182.trans (congrArg some (by kernel_rfl))⟩
 f28:=Tryz.func161.trans (congrArg some (by kernel_rfl))
 f29:=Tryz.func162.trans (congrArg some (by kernel_rfl))
 f46:=⟨Tryz.f218.name,by decide,Tryz.func218.trans (congrArg some (by kernel_rfl))⟩
 f47:=Tryz.func209.trans (congrArg some (by kernel_rfl))
 f48:=Tryz.func210.trans (congrArg some (by kernel_rfl))
 f49:=⟨Tryz.f219.name,by decide,Tryz.func219.trans (congrArg some (by kernel_rfl))⟩
 f50:=⟨Tryz.f220.name,by decide,Tryz.func220.trans (congrArg some (by kernel_rfl))⟩
 f57:=⟨Tryz.f236.name,by decide,Tryz.func236.trans (congrArg some (by kernel_rfl))⟩
 t0:=Tryz.underlying0
 a0:=Tryz.isAgg0
 z0:=Tryz.sizeOf0
 v0:=Tryz.zeroValue0
 t3:=Tryz.underlying3
 a3:=Tryz.isAgg3
 z3:=Tryz.sizeOf3
 v3:=Tryz.zeroValue3
 t4:=Tryz.underlying4
 a4:=Tryz.isAgg4
 z4:=Tryz.sizeOf4
 v4:=Tryz.zeroValue4
 t5:=Tryz.underlying5
 a5:=Tryz.isAgg5
 z5:=Tryz.sizeOf5
 v5:=Tryz.zeroValue5
 t9:=Tryz.underlying9
 a9:=Tryz.isAgg9
 z9:=Tryz.sizeOf9
 v9:=Tryz.zeroValue9
 t22:=Tryz.underlying27
 a22:=Tryz.isAgg27
 z22:=Tryz.sizeOf27
 v22:=Tryz.zeroValue27
 t25:=Tryz.underlying131
 a25:=Tryz.isAgg131
 z25:=Tryz.sizeOf131
 v25:=Tryz.zeroValue131
 t39:=Tryz.underlying194
 a39:=Tryz.isAgg194
 z39:=Tryz.sizeOf194
 v39:=Tryz.zeroValue194
 t45:=Tryz.underlying229
 a45:=Tryz.isAgg229
 z45:=Tryz.sizeOf229
 v45:=Tryz.zeroValue229
 t46:=Tryz.underlying230
 a46:=Tryz.isAgg230
 z46:=Tryz.sizeOf230
 v46:=Tryz.zeroValue230
 t50:=Tryz.underlying124
 a50:=Tryz.isAgg124
 z50:=Tryz.sizeOf124
 v50:=Tryz.zeroValue124
 t53:=Tryz.underlying237
 a53:=Tryz.isAgg237
 z53:=Tryz.sizeOf237
 v53:=Tryz.zeroValue237
 t55:=Tryz.underlying239
 a55:=Tryz.isAgg239
 z55:=Tryz.sizeOf239
 v55:=Tryz.zeroValue239
 t66:=Tryz.underlying269
 a66:=Tryz.isAgg269
 z66:=Tryz.sizeOf269
 v66:=Tryz.zeroValue269
 t70:=Tryz.underlying273
 a70:=Tryz.isAgg273
 z70:=Tryz.sizeOf273
 v70:=Tryz.zeroValue273
 t76:=Tryz.underlying284
 a76:=Tryz.isAgg284
 z76:=Tryz.sizeOf284
 v76:=Tryz.zeroValue284
 t77:=Tryz.underlying144
 a77:=Tryz.isAgg144
 z77:=Tryz.sizeOf144
 v77:=Tryz.zeroValue144 }
open Go.RowKit Go.Lib Go.Sort in
theorem Tryz.slices_SortFunc_eq_f77{α:Type}[Inhabited α](k:Nat)(aE:∀w,(isAgg (Tryz.laysSlF06_f77_ren.t 24)).run Tryz.prog w=.ok true w)(zE:∀w,(Go.sizeOf (Tryz.laysSlF06_f77_ren.t 24)).run Tryz.prog w=.ok k w)(enc:α->List Value)(hk:∀x,(enc x).length=k)(h1:∀x,∀v∈enc x,v.oneCell'=true)(cf:α->α->Int)(hO:SWO (ltOf cf))(g:Nat)(cb:Array Value)(blk off cap:Nat)(d:Array α)(w:World)(eg:∀args w,(callFunc g args).run Tryz.prog w=.ok (.enter g args) w)(hcmp:CmpLays Tryz.prog g cb enc k cf blk off d.size w)(hH:HoldsK enc k w blk off d)(hblk:blk<w.heap.size)(hsz:d.size<4611686018427387904):
  Calls Tryz.prog 77 #[.slice (some ⟨blk,off,none⟩) d.size cap,.func (.func g) #[] cb] w fun e w'=>
   e=.returned (.tuple #[])/\∃n os,w'=sortWorldK enc k w blk off n (pdq (ltOf cf) d 0 d.size (Lib.bitLen d.size) true true) os:=AnyQ.slices_SortFunc_eq Tryz.laysSlF06_f77 k aE zE enc hk h1 cf hO g cb blk off cap d w eg hcmp hH hblk hsz
open Go.RowKit Go.Lib Go.Sort in
theorem Tryz.slices_SortFunc_none_f75{α:Type}[Inhabited α](p:Option Addr)(cap:Nat)(fv:Value)(w:World):
  Calls Tryz.prog 75 #[.slice p 0 cap,fv] w fun e w'=>e=.returned (.tuple #[])/\w'=w:=AnyF.slices_SortFunc_none Tryz.laysSlF06_f75 p cap fv w
open Go.RowKit Go.Lib Go.Sort in
theorem Tryz.slices_SortFunc_none_f77{α:Type}[Inhabited α](p:Option Addr)(cap:Nat)(fv:Value)(w:World):
  Calls Tryz.prog 77 #[.slice p 0 cap,fv] w fun e w'=>e=.returned (.tuple #[])/\w'=w:=AnyF.slices_SortFunc_none Tryz.laysSlF06_f77 p cap fv w
end Go.Proofs
namespace Go.Proofs.YtelmfadihfcgnaaGreatDoor
open Go Go.Pv Go.RowKit Go.Lib Go.Sort Go.Shelf
theorem vC{α:Type}{us:List α}(h:2=us.length):∃u v,us=[u,v]:=by
 match us,h with
 |[u,v],_=>exact⟨u,v,rfl⟩
theorem Nb(a:Option Addr)(w:World):Calls Tryz.prog 28 #[.slice a 0 0,.int .i64 0,.int .i64 0] w fun e w'=>e=.returned (.slice a 0 0)/\w'=w:=by
 go_enter Tryz.func28,Tryz.ntmps28
 go_wp2
 all_goals (go_ret;exact⟨rfl,rfl⟩)
theorem Lc{gl:Gl}(l:List B8){i j:Int}(hc:0<=i/\i<=j/\j.toNat<=l.length):fV gl Tryz.prog 28 [(V.own 0 l.length),(iV i),(iV j)] 1 [(0,Ob.arr 9 1 (l.map ap))]
  (V.own 0 (l.take i.toNat++l.drop j.toNat).length) 1 ((0,Ob.arr 9 1 ((l.take i.toNat++l.drop j.toNat).map ap))::[(0,Ob.arr 9 1 (l.map ap))]):=by
 obtain⟨h0,hij,hjl⟩:=hc;obtain⟨i,rfl⟩:=Int.eq_ofNat_of_zero_le h0;obtain⟨j,rfl⟩:=Int.eq_ofNat_of_zero_le (Int.le_trans h0 hij);simp only[Int.toNat_natCast] at hij hjl ⊢;have hij:i<=j:=by omega
 refine yl str (fun _=>Y) l (l.take i++l.drop j) (List.replicate (j - i) []) _ Y (by simp;omega) ?_ ?_
 ·intro m β w us blk off cap hus hown himm hne hblk hH hbs hcap hcm;obtain⟨u,v,rfl⟩:=vC (us:=us) (by simpa using hus.len);obtain rfl:=(hus.at' 0 _ _ rfl rfl).of_con;obtain rfl:=(hus.at' 1 _ _ rfl rfl).of_con;have hm:cap<=9223372036854775807:=by unfold maxLen at hcm;omega
  have h:=Tryz.slices_Delete_string_arr blk off cap i j l.toArray w hH (by simpa using hcap) hm hij (by simpa using hjl);refine Calls.mono h ?_
  rintro e w' ⟨rfl,q,rfl⟩
  exact⟨by rw[show l.toArray.size - (j - i)=(l.take i++l.drop j).length by simp;omega],q,#[],by rw[grow_empty]⟩
 ·intro m β w us a hus _ _ hl;obtain⟨u,v,rfl⟩:=vC (us:=us) (by simpa using hus.len);obtain rfl:=(hus.at' 0 _ _ rfl rfl).of_con;obtain rfl:=(hus.at' 1 _ _ rfl rfl).of_con;subst hl;obtain rfl:j=0:=by simpa using hjl
  obtain rfl:i=0:=by omega
  refine Calls.mono (Nb a w) ?_
  rintro e w' ⟨rfl,rfl⟩
  exact⟨Y,Below.refl _ _,trivial⟩
theorem rC{m:bB}{x y:Value}{v:Value}(h:bN m (.agg [.con x,.con y]) v):v=.agg #[x,y]:=by
 cases h with
 | @agg _ vs hl hr=>
  obtain⟨vs⟩:=vs;obtain⟨u0,u1,rfl⟩:=vC (us:=vs) (by simpa using hl);have h0:=hr 0 _ u0 rfl rfl;have h1:=hr 1 _ u1 rfl rfl;cases h0;cases h1;rfl
theorem yX{m:bB}{a b:V}{vs:Array Value}(h:nA m [a,b] vs):∃u v,vs=#[u,v]/\bN m a u/\bN m b v:=by
 obtain⟨hl,hr⟩:=h;obtain⟨vs⟩:=vs;obtain⟨u0,u1,rfl⟩:=vC (us:=vs) (by simpa using hl);exact⟨u0,u1,Y,hr 0 _ _ Y Y,hr 1 _ _ Y Y⟩
theorem LD(F:Nat)(x y:bC)(c:Int)(h:Ol F x y=some c):JG [] Tryz.prog 76 ([V.agg (bu x),V.agg (bu y)]++[]) c:=by
 intro m w vs _ _ hargs;obtain⟨u,v,rfl,hu,hv⟩:=yX hargs;obtain rfl:=rC hu;obtain rfl:=rC hv
 show Calls Tryz.prog 76 #[.agg #[str x.Name,str x.Value],.agg #[str y.Name,str y.Value]] w _
 unfold Ol at h
 go_enter Tryz.func76,Tryz.ntmps76
 go_wp2
 all_goals (go_ret;refine⟨?_,0,#[Obj.cells #[str x.Name,str x.Value] 39,Obj.cells #[str y.Name,str y.Value] 39],rfl⟩;simp_all)
theorem LC(F:Nat)(x y:aT)(c:Int)(h:Ok F x y=some c):JG [] Tryz.prog 78 ([V.agg (bj x),V.agg (bj y)]++[]) c:=by
 intro m w vs _ _ hargs;obtain⟨u,v,rfl,hu,hv⟩:=yX hargs;obtain rfl:=rC hu;obtain rfl:=rC hv
 show Calls Tryz.prog 78 #[.agg #[str x.Name,.int .i64 x.N],.agg #[str y.Name,.int .i64 y.N]] w _
 unfold Ok at h
 go_enter Tryz.func78,Tryz.ntmps78
 go_wp2
 all_goals (go_ret;refine⟨?_,0,#[Obj.cells #[str x.Name,.int .i64 x.N] 41,Obj.cells #[str y.Name,.int .i64 y.N] 41],rfl⟩;simp_all)
end Go.Proofs.YtelmfadihfcgnaaGreatDoor
/-
 DERIVED: THE SHELF's CONTRACTS AT THIS DUMP, IN PLAIN WORDS (tools/lay-plain.mjs out of 'TryzShelf.lean', which tools/lay-shelf.mjs wrote): THE SAME DECLARATIONS UNDER THE SAME NAMES: 'import', 'namespace', 'open', 'def', 'theorem' AND NOTHING ELSE: no command of the shelf's: FOR A HAND-IN. Each laying: the table of numbers ('.._ren') and one theorem, a field a fact of the dump's own or the kernel's comparison; each contract: ONE APPLICATION.
-/
namespace Go.Proofs
open Go.Shelf
def Tryz.lz47_ren:Go.Shelf.Ren:=⟨fun|6=>47|8=>108|9=>109|11=>145|13=>115|12=>146|23=>161|24=>162|14=>198|15=>199|16=>200|17=>201|18=>202|19=>203|20=>204|21=>205|22=>206|25=>228|26=>209|27=>210|28=>229|29=>230|30=>231|31=>246|n=>n,fun|26=>9|28=>101|24=>22|0=>0|3=>3|37=>194|48=>237|50=>239|4=>4|40=>230|39=>229|45=>124|5=>5|9=>9|51=>269|55=>273|57=>284|58=>144|33=>37|n=>n,fun|n=>n⟩
theorem Tryz.lz47:Go.Proofs.SlLaysZ.n6 Tryz.prog Tryz.lz47_ren:={
 mixed:=by kernel_rfl
 f6:=⟨Tryz.f47.name,by decide,Tryz.func47.trans (congrArg some (by kernel_rfl))⟩
 f8:=⟨Tryz.f108.name,by decide,Tryz.func108.trans (congrArg some (by kernel_rfl))⟩
 f11:=⟨Tryz.f145.name,by decide,Tryz.func145.trans (congrArg some (by kernel_rfl))⟩
 t0:=Tryz.underlying0
 a0:=Tryz.isAgg0
 z0:=Tryz.sizeOf0
 v0:=Tryz.zeroValue0
 t24:=Tryz.underlying22
 a24:=Tryz.isAgg22
 z24:=Tryz.sizeOf22
 v24:=Tryz.zeroValue22
 t26:=Tryz.underlying9
 a26:=Tryz.isAgg9
 z26:=Tryz.sizeOf9
 v26:=Tryz.zeroValue9
 t28:=Tryz.underlying101
 a28:=Tryz.isAgg101
 z28:=Tryz.sizeOf101
 v28:=Tryz.zeroValue101
 i26:=by kernel_rfl }
def Tryz.lz48_ren:Go.Shelf.Ren:=⟨fun|7=>48|10=>110|n=>n,fun|23=>77|26=>9|3=>103|28=>101|0=>0|27=>100|33=>37|4=>4|n=>n,fun|n=>n⟩
theorem Tryz.lz48:Go.Proofs.SlLaysZ.n7 Tryz.prog Tryz.lz48_ren:={
 mixed:=by kernel_rfl
 f7:=⟨Tryz.f48.name,by decide,Tryz.func48.trans (congrArg some (by kernel_rfl))⟩
 f10:=⟨Tryz.f110.name,by decide,Tryz.func110.trans (congrArg some (by kernel_rfl))⟩
 t0:=Tryz.underlying0
 a0:=Tryz.isAgg0
 z0:=Tryz.sizeOf0
 v0:=Tryz.zeroValue0
 t4:=Tryz.underlying4
 a4:=Tryz.isAgg4
 z4:=Tryz.sizeOf4
 v4:=Tryz.zeroValue4
 t23:=Tryz.underlying77
 a23:=Tryz.isAgg77
 z23:=Tryz.sizeOf77
 v23:=Tryz.zeroValue77
 t26:=Tryz.underlying9
 a26:=Tryz.isAgg9
 z26:=Tryz.sizeOf9
 v26:=Tryz.zeroValue9
 t27:=Tryz.underlying100
 a27:=Tryz.isAgg100
 z27:=Tryz.sizeOf100
 v27:=Tryz.zeroValue100
 t28:=Tryz.underlying101
 a28:=Tryz.isAgg101
 z28:=Tryz.sizeOf101
 v28:=Tryz.zeroValue101
 t33:=Tryz.underlying37
 a33:=Tryz.isAgg37
 z33:=Tryz.sizeOf37
 v33:=Tryz.zeroValue37 }
def Tryz.lz110_ren:Go.Shelf.Ren:=⟨fun|10=>110|n=>n,fun|33=>37|23=>77|0=>0|4=>4|26=>9|3=>103|n=>n,fun|n=>n⟩
theorem Tryz.lz110:Go.Proofs.SlLaysZ.n10 Tryz.prog Tryz.lz110_ren:={
 mixed:=by kernel_rfl
 f10:=⟨Tryz.f110.name,by decide,Tryz.func110.trans (congrArg some (by kernel_rfl))⟩
 t0:=Tryz.underlying0
 a0:=Tryz.isAgg0
 z0:=Tryz.sizeOf0
 v0:=Tryz.zeroValue0
 t4:=Tryz.underlying4
 a4:=Tryz.isAgg4
 z4:=Tryz.sizeOf4
 v4:=Tryz.zeroValue4
 t23:=Tryz.underlying77
 a23:=Tryz.isAgg77
 z23:=Tryz.sizeOf77
 v23:=Tryz.zeroValue77
 t26:=Tryz.underlying9
 a26:=Tryz.isAgg9
 z26:=Tryz.sizeOf9
 v26:=Tryz.zeroValue9
 t33:=Tryz.underlying37
 a33:=Tryz.isAgg37
 z33:=Tryz.sizeOf37
 v33:=Tryz.zeroValue37 }
end Go.Proofs
