/- Part of the proof. -/
import Derived.Test.YtelmfadihfcgnaaGreatDoorFD7RJ
set_option linter.unusedSimpArgs false
set_option linter.unusedVariables false
namespace Go.Proofs.YtelmfadihfcgnaaGreatDoor
open Go Go.Pv
set_option maxRecDepth 100000
noncomputable def uG(F:Nat)(t:Tr)(n:bj):List Fd:=(Bg F ((sD t n).map Lf.row)).getD []
theorem DE{t:Tr}(hz:t.gd)(hc:t.cnt<=1500000){sm:List Lf}(hsm:Sm t.lvs sm){F:Nat}(hF:200000000<=F)(n:bj):Bg F ((sD t n).map Lf.row)=some (uG F t n)/\Fds (sD t n) (uG F t n):=by
 obtain⟨cs,e,h⟩:=L4 F (sD t n) hF (fun l hl=>xQ t hz l (s6.1 hl).1) (by grind [s7]) (sm:=sm) ⟨fun l hl=>hsm.sub l (s6.1 hl).1,hsm.ok,hsm.ln⟩
 simp_all[uG]
theorem wV{t:Tr}(ok:t.ok)(hz:t.gd)(hc:t.cnt<=1500000){sm:List Lf}(hsm:Sm t.lvs sm){F:Nat}(hF:t.fu+200000000<=F)(k:List (List Fd)->Option ((List bj)×(List (List Fd))×(List Bool)×(List Fd))):∀(l:List bj) (acc:List (List Fd)),(∀n,n∈l->n≠[])->acc.length+l.length<=1000->
  nu F t.toT k l acc=k (acc++l.map (uG F t))
 |[],acc,_,_=>by rw[nu];simp
 |n::l,acc,h,hl=>by
  simp only[br8] at hl;rw[nu,I3 n (h n (by simp)) t ok hz hc F (by omega),bt9,(DE hz hc hsm (by omega) n).1,bt9,if_pos (by simp;omega),wV ok hz hc hsm hF k l _ (fun m hm=>h m (by simp[hm])) (by simp;omega)];simp
theorem O1{t:Tr}(ok:t.ok)(hz:t.gd)(hc:t.cnt<=1500000){sm:List Lf}(hsm:Sm t.lvs sm){F:Nat}(hF:t.fu+200000000<=F){ns:List bj}(e:Jf F t.toT []=some ns)(hn:∀n,n∈ns->n≠[])(hlen:ns.length<=60):
  RJ F t.toT=some (ns,ns.map (uG F t),List.replicate ns.length false,List.replicate ns.length fz):=by
 unfold RJ;rw[e,bt9,az,wV ok hz hc hsm hF _ ns [] hn (by simp;omega),if_pos ⟨by omega,by omega,by omega⟩,if_pos ⟨by omega,by omega,by omega⟩];rfl
theorem I1(F:Nat)(s:aI)(kind:bj)(h:s.is.length=s.names.length)(hlen:s.names.length<=1000):∃f,RB F s kind=some f:=by
 unfold RB;rw[az,if_pos (by omega),show(((s.names.length:Nat):Int)).toNat=s.names.length by omega]
 have:∀(m j:Nat),j+m=s.names.length->∀(A:List bu) (B:List aL),A.length+m<=100000->B.length+m<=100000->∃f,ni F s (fun(l4:List bu) (l5:List aL)=>some (aW.mk kind ([]:B8) l4 l5)) m (j:Int) A B=some f:=by
  intro m
  induction m with
  |zero=>simp_all[ni]
  |succ m ih=>
   intro j hj A B hA hB;have hn:j<s.names.length:=by omega
   have hi:j<s.is.length:=by omega
   have ih':=fun A B hA hB=>ih (j+1) (by omega) A B hA hB;rw[show((j+1:Nat):Int)=(j:Int)+1 from rfl] at ih';rw[ni];simp only[bU hn,bU hi,bt9,az]
   grind
 have:=this s.names.length 0 (by omega) [] [] (by simp;omega) (by simp;omega);exact this
theorem Ic{t:Tr}{s:bj->Option Fd}(hok:∀n x,s n=some x->zT x)(h:t.tr3 s=some true):JN t.truA:=by
 refine⟨fun n=>(s n).getD fz,fun n=>?_,?_⟩
 ·dsimp only;cases hx:s n with
  |none=>exact zS
  |some x=>grind
 ·have h6:t.tr3 (fun n=>some ((s n).getD fz))=some true:=tw (fun n x hx=>by grind) t true h
  grind [pL,Option.some.inj]
theorem Pd(t:Tr)(ok:t.ok)(hz:t.gd)(hc:t.cnt<=1500000){sm:List Lf}(hsm:Sm t.lvs sm)(hg:∃ls,fZ ls/\jI ls=true/\∀l,l∈t.lvs->l∈ls)(kind:bj)(F:Nat)(hF:t.fu+300000000000<=F):∃f r,Pe F t.toT kind=some (f,r)/\(r=true<->JN t.truA):=by
 obtain⟨ns,e,h1,h2⟩:=Je t ok hz hc F (by omega)
 have hlen:ns.length<=17:=by
  obtain⟨ls,w1,w2,w3⟩:=hg;refine bq8 (fU (h1.imp wL) fun y hy=>?_) (uv w1 w2);obtain⟨l,hl,e⟩:=(h2 y).1 hy;exact(nU w1).2 ⟨l,w3 l hl,e⟩
 have hm:∀l,l∈t.lvs->l.nm∈ns:=fun l hl=>(h2 l.nm).2 ⟨l,hl,rfl⟩;have hcan:=fun n=>DE (t:=t) hz hc hsm (F:=F) (by omega) n;have hnd:ns.Nodup:=h1.imp wL
 have hf:=O0 t ok hz ns h1 hlen hm (uG F t) (fun n=>(hcan n).2.ln) ns.length 0 (by omega) F (by omega) (List.replicate ns.length false) (List.replicate ns.length fz) (fun _=>none)
  ⟨by simp,by simp,fun i hi=>by simp⟩ (fun i hi _=>by simp) (fun i hi _=>by simp) (fun i hi h=>by omega)
 rw[bn8,show((0:Nat):Int)=0 from rfl] at hf;unfold Pe
 rw[O1 ok hz hc hsm (by omega) e (fun n hn=>by
  obtain⟨l,hl,e⟩:=(h2 n).1 hn;exact e ▸ tU (hsm.ok l (hsm.sub l hl)).nm) (by omega),bt9]
 dsimp only;cases h4:sj? (fun s=>t.tr3 s) (uG F t) ns (fun _=>none) with
 |some s'=>
  rw[h4] at hf;dsimp only at hf;obtain⟨S',I',e1,e2,e3⟩:=hf;obtain⟨g1,g2,g3⟩:=ro ns _ s' hnd (fun _ _=>rfl) h4;have e1':Cv F 0 t.toT.Kind t.toT.Name t.toT.Texts t.toT.Op t.toT.N t.toT.Kids ns (ns.map (uG F t)) (List.replicate ns.length false) (List.replicate ns.length fz)=some (true,S',I'):=e1;rw[e1',bt9,if_neg (by simp)];obtain⟨f,hf⟩:=I1 F ⟨t.toT,ns,ns.map (uG F t),S',I'⟩ kind e3 (by grind);refine⟨f,true,by grind,⟨fun _=>Ic (fun n x hx=>?_) g1,fun _=>Y⟩⟩;rcases g3 n x hx with h|⟨h,h5⟩
  ·cases h
  ·exact(hcan n).2.ok x h5
 |none=>
  rw[h4] at hf;dsimp only at hf;have e1':Cv F 0 t.toT.Kind t.toT.Name t.toT.Texts t.toT.Op t.toT.N t.toT.Kids ns (ns.map (uG F t)) (List.replicate ns.length false) (List.replicate ns.length fz)=some (false,List.replicate ns.length false,List.replicate ns.length fz):=hf;rw[e1',bt9,if_pos (by simp)];refine⟨_,false,rfl,⟨fun h=>(by cases h),fun⟨v,hv,ht⟩=>?_⟩⟩;have ht:t.truA v=true:=ht;exfalso;have hrep:∀n,∃c,c∈uG F t n/\∀l,l∈sD t n->l.one c=l.one (v n):=fun n=>(hcan n).2.rep (v n) (hv n);refine ut (P:=fun s=>t.tr3 s) (fun s s' b he h=>tw he t b h) ns _ hnd (fun _ _=>Y) h4 (fun n=>(hrep n).choose) (fun n _=>(hrep n).choose_spec.1) ?_
  rw[pL (a:=fun n=>(hrep n).choose) t fun l hl=>by
   simp_all[oK]]
  rw[tr t (b:=v) fun l hl=>(hrep l.nm).choose_spec.2 l (s6.2 ⟨hl,rfl⟩),ht]
open Classical in
noncomputable def zC(x:aH):Tr:=if h:∃t:Tr,x=t.toT/\t.ok then h.choose else .mk 0 [] [] 0 0 []
theorem tu{x:aH}(h:pT x):x=(zC x).toT/\(zC x).ok:=by
 have h':∃t:Tr,x=t.toT/\t.ok:=h;unfold zC
 grind
noncomputable def JW(x:aH):Int:=vT (zC x)
theorem Pp{x:aH}(h:pT x){F:Nat}(hF:(zC x).fu<=F):P4 F x=some (JW x):=by
 obtain⟨h1,h2⟩:=tu h;have:=Pq (zC x) h2 F hF
 rwa [<-h1] at this
theorem Ph{x:aH}(h:pT x){F:Nat}(hF:(zC x).fu<=F):P1 F x=some (JW x):=by
 obtain⟨h1,h2⟩:=tu h;have:=Pj (zC x) h2 F hF
 rwa [<-h1] at this
theorem BN{f:aW}(h:sO f):okTFact' f:=
 ⟨h.1,h.2.1,fun p hp=>⟨(h.2.2.1.1 p hp).1,(h.2.2.1.1 p hp).2.1⟩,h.2.2.1.2,fun p hp=>(h.2.2.2.1.1 p hp).1,h.2.2.2.1.2⟩
noncomputable def iS(p:aw):Nat:=(p.Rules.map fun r=>(zC r.When).fu).sum+(p.Waivers.map fun w=>w.Subject.length+2).sum
theorem t7{α:Type}{g:α->Nat}:∀{l:List α} {x:α},x∈l->g x<=(l.map g).sum
 |y::l,x,h=>by
  rcases aq9.1 h with e|h
  ·subst e;simp
  ·have:=t7 (g:=g) h;simp;omega
noncomputable def Bj(seen:List B8):List aC->Int
 |[]=>0
 |r::l=>if cO r.Name=false then 8 else if (seen.any fun n=>n==r.Name)=true then 5 else if cO r.About=false then 8 else if JW r.When=0 then (if (decide (r.Level<1)||decide (r.Level>4))=true then 7 else Bj (seen++[r.Name]) l) else JW r.When
def zG(s:B8):Bool:=s.dropLast.any fun c=>c==42
def Mk(p:aw)(w:bN):Int:=
 if (p.Rules.any fun r=>r.Name==w.Rule)=false then 4 else if je w.Subject=false then 2 else if zG w.Subject=true then 2
 else if (decide (w.From<0)||decide (w.From>w.To)||decide (w.To>1000000))=true then 9 else if cO w.Owner=false then 8 else if (decide (w.Level<1)||decide (w.Level>3))=true then 7 else 0
def xm(p:aw):List bN->Int
 |[]=>0
 |w::l=>if Mk p w=0 then xm p l else Mk p w
noncomputable def vP(p:aw):Int:=if 100<p.Rules.length then 3 else if 200<p.Waivers.length then 3 else if Bj [] p.Rules=0 then xm p p.Waivers else Bj [] p.Rules
theorem D6(F:Nat)(l:List aC)(nm:B8):∃y,FD F l nm=some y/\(decide (y>=0)=l.any fun r=>r.Name==nm)/\(decide (y<0) = !l.any fun r=>r.Name==nm):=by
 unfold FD;have h:=E0 (g:=lW F nm (some (-1))) (fun r=>r.Name==nm) (fun _=>rfl) (fun x l n=>by rw[lW]) l 0;rw[show((0:Nat):Int)=0 from rfl] at h;rw[az,h]
 grind
theorem LK(F:Nat)(l:List aC)(a:B8)(b:B8)(c d:Int)(e:B8)(g:Int):Jp F l a b c d e g=some (l.any fun r=>r.Name==a):=by
 unfold Jp LJ;have h:=E0 (g:=lX F a b c d e g (some (-1))) (fun r:aC=>r.Name==a) (fun _=>rfl) (fun x l n=>by rw[lX];rfl) l 0
 grind [az,DL]
theorem CX:∀s:B8,(decide (0<=Lib.indexByte s 42)&&decide (Lib.indexByte s 42<(s.length:Int) - 1))=zG s
 |[]=>rfl
 |[c]=>by
  simp_all[zG]
 |c::d::s=>by
  have ih:=CX (d::s);unfold zG at ih ⊢;rw[List.dropLast_cons_cons,bz8,<-ih,Lib.indexByte]
  grind
theorem Me(F:Nat)(p:aw)(w:bN)(hw:jd w):Jz F p w=some (Mk p w):=by
 have h1:pc w.Subject:=hw.2.1;have h2:pc w.Owner:=hw.2.2.2.2.1;unfold Jz Mk;rw[LL,bt9,LK,bt9,az,ta F _ h1,lR F _ h2]
 grind [CX,cA,je]
theorem vi(F:Nat)(w:bN)(k:Option Int)(hl:w.Subject.length<=140737488351232):∀(fuel j:Nat),w.Subject.length<fuel+j->j<=w.Subject.length->ma F w k fuel (j:Int)=if ((w.Subject.drop j).dropLast.any fun c=>c==42)=true then some 2 else k
 |0,j,h1,h2=>by omega
 |fuel+1,j,h1,h2=>by
  rw[ma,cA (by omega) (by omega)];by_cases hj:j+1<w.Subject.length
  ·rw[if_pos (decide_eq_true (by omega)),bU (by omega),bt9,show((j:Int)+1)=((j+1:Nat):Int) from rfl,vi F w k hl fuel (j+1) (by omega) (by omega),bo8 (show j<w.Subject.length by omega),bo8 hj,List.dropLast_cons_cons,bz8]
   have:(((w.Subject[j]'(by omega)).toNat:Int)==42)=(w.Subject[j]'(by omega)==42):=by
    by_cases h:w.Subject[j]'(by omega)=42
    ·rw[h];rfl
    ·have:((w.Subject[j]'(by omega)).toNat:Int)≠42:=fun e=>h (UInt8.toNat_inj.1 (by grind))
     grind
   grind
  ·rw[if_neg (by simp;omega)]
   grind [List.length_dropLast]
theorem L9(F:Nat)(p:aw)(w:bN)(hw:jd w)(hF:w.Subject.length<F):Ju F p w=some (Mk p w):=by
 have h1:pc w.Subject:=hw.2.1;have h2:pc w.Owner:=hw.2.2.2.2.1;obtain⟨y,e1,e2,e3⟩:=D6 F p.Rules w.Rule;unfold Ju Mk;rw[e1,bt9,e3,az,I8 F _ h1,rE F _ h2,rD,rD];have hl:=fun k=>vi F w k h1 F 0 (by omega) (by omega);simp only[show((0:Nat):Int)=0 from rfl,bn8] at hl;rw[hl];unfold zG;simp only[bt9]
 grind
theorem w8(F:Nat)(p:aw)(hp:ce p):∀l:List bN,(∀w,w∈l->w∈p.Waivers)->pw F p (some 0) l=some (xm p l)
 |[],_=>rfl
 |w::l,h=>by
  rw[pw,Me F p w (hp.2.1.1 w (h w (by simp))),bt9,w8 F p hp l fun u hu=>h u (by simp[hu]),xm];by_cases h0:Mk p w=0<;>simp[h0]
theorem wW(F:Nat)(p:aw)(hp:ce p)(hF:iS p<=F):∀m n:Nat,n+m=p.Waivers.length->nE F p (some 0) m (n:Int)=some (xm p (p.Waivers.drop n))
 |0,n,h=>by simp_all[nE,xm]
 |m+1,n,h=>by
  have hn:n<p.Waivers.length:=by omega
  have hm:p.Waivers[n]∈p.Waivers:=az8 _;rw[nE,bU hn,bt9,L9 F p _ (hp.2.1.1 _ hm) (by have:=t7 (g:=fun w:bN=>w.Subject.length+2) hm;unfold iS at hF;omega),bt9,show((n:Int)+1)=((n+1:Nat):Int) from rfl,wW F p hp hF m (n+1) (by omega),bo8 hn,xm];by_cases h0:Mk p p.Waivers[n]=0<;>simp[h0]
theorem w9(F:Nat)(p:aw)(hp:ce p)(hF:iS p<=F)(k:Option Int):∀(l:List aC),(∀r,r∈l->r∈p.Rules)->∀(m:List (B8×Bool)) (seen:List B8),(∀nm,(aY m nm).getD false=seen.any fun n=>n==nm)->nL F k l m=if Bj seen l=0 then k else some (Bj seen l)
 |[],_,m,seen,_=>by simp[nL,Bj]
 |r::l,h,m,seen,hm=>by
  have hr:=h r (by simp);have hok:=hp.1.1 r hr
  rw[nL,lR F _ hok.1,bt9,hm,lR F _ hok.2.1,Pp hok.2.2.1 (by grind [t7,iS]),bt9,bt9,
   w9 F p hp hF k l (fun u hu=>h u (by simp[hu])) (cK m r.Name true) (seen++[r.Name]) (fun nm=>by
    rw[dM,List.any_append,<-hm]
    grind),Bj]
  grind
theorem Ma(F:Nat)(p:aw)(hp:ce p)(hF:iS p<=F)(n:Nat)(hn:n<p.Rules.length):Jv F p (n:Int)=some (
  if cO p.Rules[n].Name=false then 8 else if (((p.Rules.take n).map (·.Name)).any fun m=>m==p.Rules[n].Name)=true then 5 else if cO p.Rules[n].About=false then 8 else if JW p.Rules[n].When=0 then (if (decide (p.Rules[n].Level<1)||decide (p.Rules[n].Level>4))=true then 7 else 0) else JW p.Rules[n].When):=by
 have hr:p.Rules[n]∈p.Rules:=az8 _;have hok:=hp.1.1 _ hr;obtain⟨y,e1,e2,e3⟩:=D6 F (p.Rules.take n) p.Rules[n].Name;unfold Jv;rw[bU hn,bt9,rE F _ hok.1,bt9,if_pos (show 0<=(n:Int)/\(n:Int).toNat<=p.Rules.length by omega),show((n:Int)).toNat=n by omega,e1,bt9,e2,rE F _ hok.2.1,Ph hok.2.2.1 (by grind [t7,iS]),rD,List.any_map]
 grind
theorem wX(F:Nat)(p:aw)(hp:ce p)(hF:iS p<=F)(k:Option Int):∀m n:Nat,n+m=p.Rules.length->nF F p k m (n:Int)=if Bj ((p.Rules.take n).map (·.Name)) (p.Rules.drop n)=0 then k else some (Bj ((p.Rules.take n).map (·.Name)) (p.Rules.drop n))
 |0,n,h=>by simp_all[nF,Bj]
 |m+1,n,h=>by
  have hn:n<p.Rules.length:=by omega
  rw[nF,Ma F p hp hF n hn,bt9,show((n:Int)+1)=((n+1:Nat):Int) from rfl,wX F p hp hF k m (n+1) (by omega),bo8 hn,Bj,List.take_succ_eq_append_getElem hn,ci9,bh9,ao9];cases cO p.Rules[n].Name
  ·rfl
  ·cases (((p.Rules.take n).map (·.Name)).any fun m=>m==p.Rules[n].Name)
   ·cases cO p.Rules[n].About
    ·rfl
    ·by_cases h0:JW p.Rules[n].When=0
     ·simp only[h0];cases decide (p.Rules[n].Level<1)<;>cases decide (p.Rules[n].Level>4)<;>rfl
     ·simp[h0]
   ·rfl
theorem nK(p:aw)(hp:ce p)(F:Nat)(hF:iS p<=F):O9 F p=some (vP p):=by
 unfold O9 vP;simp only[az];rw[w9 F p hp hF _ p.Rules (fun _ h=>h) [] [] (fun nm=>rfl),w8 F p hp _ fun _ h=>h]
 grind
theorem pv(p:aw)(hp:ce p)(F:Nat)(hF:iS p<=F):P0 F p=some (vP p):=by
 have hm1:=hp.1.2;have hm2:=hp.2.1.2;rw[eH] at hm1 hm2;unfold P0 vP;simp only[az];have e1:=wX F p hp hF (some (xm p p.Waivers)) p.Rules.length 0 (by omega);have e2:=wW F p hp hF p.Waivers.length 0 (by omega)
 grind
def NT(l:List aW):Prop:=(∀f,f∈l->okTFact' f)/\l.length<=maxLen
def PO:List aW->Int
 |[]=>0
 |f::l=>if vF f=0 then PO l else vF f
def JX(l:List aW):Int:=if 5000<l.length then 3 else PO l
theorem Md(F:Nat)(l:List aW)(h:NT l):Jy F l=some (JX l):=by
 have hl:∀q:List aW,(∀f,f∈q->f∈l)->mb F (some 0) q=some (PO q):=by
  intro q
  induction q with
  |nil=>intro _;rfl
  |cons f q ih=>
   intro hq;rw[mb,Pc F f (h.1 f (hq f (by simp))),bt9,ih fun u hu=>hq u (by simp[hu]),PO]
   grind
 unfold Jy JX;rw[az,hl l fun _ h=>h]
 grind
theorem CZ:∀{l:List aC} {seen:List B8} {r:aC},Bj seen l=0->r∈l->JW r.When=0
 |x::l,seen,r,h,hm=>by
  rw[Bj] at h;split at h
  ·cases h
  ·split at h
   ·cases h
   ·split at h
    ·cases h
    ·split at h
     ·rename_i h0;split at h
      ·cases h
      ·rcases aq9.1 hm with e|hm
       ·rw[e];exact h0
       ·exact CZ h hm
     ·rename_i h0;exact absurd h h0
theorem ld{p:aw}(h:vP p=0):p.Rules.length<=100/\p.Waivers.length<=200/\(∀r,r∈p.Rules->JW r.When=0)/\xm p p.Waivers=0:=by
 grind [vP,CZ]
noncomputable def GW(f:aW)(r:aC):Bool:=(r.About==f.Kind)&&(zC r.When).tru f
noncomputable def rf(p:aw)(f:aW):Int:=if (p.Rules.any (GW f))=true then ((p.Rules.findIdx (GW f):Nat):Int) else -1
section
variable{p:aw}(hp:ce p)(h0:vP p=0){F:Nat}(hF:iS p<=F)
include hp h0 hF
theorem CJ{r:aC}(hr:r∈p.Rules):r.When=(zC r.When).toT/\(zC r.When).ok/\(zC r.When).flt=0/\(zC r.When).cnt<=60/\(zC r.When).fu<=F:=by
 have h1:=tu (hp.1.1 r hr).2.2.1;have h2:=JV ((ld h0).2.2.1 r hr)
 grind [t7,iS]
theorem LI{r:aC}(hr:r∈p.Rules)(f:aW):Jo F r f.Kind f.Subject f.Texts f.Numbers=some (GW f r):=by
 obtain⟨e1,e2,e3,e4,e5⟩:=CJ hp h0 hF hr;unfold Jo GW;cases r.About==f.Kind
 ·rfl
 ·rw[if_pos rfl,e1,Jg _ e2 e3 e4 F e5,bt9,show(aW.mk f.Kind f.Subject f.Texts f.Numbers)=f from rfl,Pb,bt9,if_pos (SP _),KC f _ e2 e3 F e5,<-e1];cases (zC r.When).tru f<;>rfl
theorem qx(f:aW):∀(l:List aC) (n:Nat),(∀r,r∈l->r∈p.Rules)->gS F f.Kind f.Subject f.Texts f.Numbers (some (-1)) l (n:Int)=if (l.any (GW f))=true then some ((n+l.findIdx (GW f):Nat):Int) else some (-1)
 |[],n,_=>rfl
 |r::l,n,h=>by
  rw[gS,LI hp h0 hF (h r (by simp)) f,bt9,show((n:Int)+1)=((n+1:Nat):Int) from rfl,qx f l (n+1) fun u hu=>h u (by simp[hu]),bz8,cc9]
  grind
theorem Mc(f:aW):Jx F p f=some (rf p f):=by
 unfold Jx za rf;have:=qx hp h0 hF f p.Rules 0 fun _ h=>h;rw[show((0:Nat):Int)=0 from rfl] at this;rw[az,this,by8]
 grind
end
def CW(a s:B8):Bool:=if a.getLast? = some 42 then Bq s a.dropLast else a==s
theorem LH(F:Nat)(a:B8)(ha:a.length<=140737488351232):Jm F a [42]=some (if a.getLast? = some 42 then a.dropLast else a,decide (a.getLast? = some 42)):=by
 rcases List.eq_nil_or_concat a with rfl|⟨b,c,rfl⟩
 ·rfl
 ·simp only[List.concat_eq_append,be9,List.length_singleton] at ha ⊢;unfold Jm LA Lw;simp only[be9,List.length_singleton];rw[if_pos (decide_eq_true (by omega)),cA (by omega) (by omega),show(((b.length+1:Nat):Int) - ((1:Nat):Int))=((b.length:Nat):Int) by omega,show((b.length:Int)).toNat=b.length by omega,if_pos (by omega),List.drop_append_of_le_length (by omega),List.drop_length,ad9,bt9,List.take_append_of_le_length (by omega),List.take_length]
  grind
theorem Mb(F:Nat)(w:bN)(s:B8)(hw:jd w):Jw F w s=some (CW w.Subject s):=by
 unfold Jw CW;rw[LH F _ hw.2.1,bt9];dsimp only;by_cases h:w.Subject.getLast? = some 42
 ·simp_all[zb]
 grind
def Ax(r:aC)(f:aW)(w:bN):Bool:=(w.Rule==r.Name)&&decide (w.Level<r.Level)&&CW w.Subject f.Subject
def KQ(day:Int)(w:bN):Bool:=decide (w.From<=day)&&decide (day<=w.To)
def ud(c:bN->Bool):List bN->Nat->List Int
 |[],_=>[]
 |w::l,n=>if c w=true then (n:Int)::ud c l (n+1) else ud c l (n+1)
def E6(c:bN->Bool):List bN->Nat->Option (Int×Int)
 |[],_=>none
 |w::l,n=>if c w=true then some ((n:Int),w.Level) else E6 c l (n+1)
noncomputable def ji(p:aw)(f:aW):Option aC:=p.Rules.find? (GW f)
noncomputable def FJ(p:aw)(f:aW):aO:=match ji p f with
 |none=>⟨rf p f,1,[]⟩
 |some r=>⟨rf p f,r.Level,ud (Ax r f) p.Waivers 0⟩
noncomputable def IA(p:aw)(day:Int)(f:aW)(i:Int):bE:=match ji p f with
 |none=>⟨i,rf p f,-1,1⟩
 |some r=>(match E6 (fun w=>Ax r f w&&KQ day w) p.Waivers 0 with
  |none=>⟨i,rf p f,-1,r.Level⟩
  |some (k,v)=>⟨i,rf p f,k,v⟩)
noncomputable def Fe(p:aw)(day:Int):List aW->Nat->List bE
 |[],_=>[]
 |f::l,n=>IA p day f (n:Int)::Fe p day l (n+1)
theorem AD{α:Type}(q:α->Bool):∀l:List α,(l.any q=false/\l.find? q=none)\/(l.any q=true/\∃r,l.find? q=some r/\l[l.findIdx q]? = some r/\q r=true)
 |[]=>Or.inl ⟨rfl,rfl⟩
 |x::l=>by
  rw[bz8,List.find?_cons,cc9];cases h:q x
  ·rcases AD q l with ⟨h1,h2⟩|⟨h1,r,h2,h3,h4⟩
   ·left;exact⟨by rw[h1];rfl,h2⟩
   ·right;exact⟨by rw[h1];rfl,r,h2,by simpa using h3,h4⟩
  ·right;exact⟨rfl,x,rfl,by simp,h⟩
theorem C0{p:aw}{f:aW}(h:ji p f=none):rf p f = -1:=by
 simp_all[rf,ji]
theorem Ki{p:aw}{f:aW}{r:aC}(h:ji p f=some r):0<=rf p f/\cH p.Rules (rf p f)=some r/\r∈p.Rules:=by
 unfold rf;rcases AD (GW f) p.Rules with ⟨h1,h2⟩|⟨h1,r',h2,h3,h4⟩
 ·simp_all[ji]
 ·unfold ji at h;rw[h2] at h;cases h;rw[if_pos h1];refine⟨by omega,?_,aw9 h3⟩
  simp_all[cH]
section
variable{p:aw}(hp:ce p)(h0:vP p=0){F:Nat}(hF:iS p<=F)
include hp h0
omit h0 in
theorem wY(f:aW)(r:aC)(k:List Int->Option (List aO)):∀(l:List bN) (n:Nat) (acc:List Int),(∀w,w∈l->w∈p.Waivers)->acc.length+l.length<=200->nG F f r k l (n:Int) acc=k (acc++ud (Ax r f) l n)
 |[],n,acc,_,_=>by simp_all[nG,ud]
 |w::l,n,acc,h,hl=>by
  simp only[br8] at hl;have hw:=hp.2.1.1 w (h w (by simp));rw[nG,Mb F w _ hw,ud,show((n:Int)+1)=((n+1:Nat):Int) from rfl];simp only[az,bt9];have ih:=fun acc (hacc:acc.length+l.length<=200)=>wY f r k l (n+1) acc (fun u hu=>h u (by simp[hu])) hacc;have hb:Ax r f w=((w.Rule==r.Name)&&decide (w.Level<r.Level)&&CW w.Subject f.Subject):=rfl
  grind
include hF
theorem wZ(k:List aO->Option (List aO)):∀(l:List aW) (acc:List aO),acc.length+l.length<=5000->lO F p k l acc=k (acc++l.map (FJ p))
 |[],acc,_=>by simp_all[lO]
 |f::l,acc,hl=>by
  simp only[br8] at hl;have h200:=(ld h0).2.1;rw[lO,Mc hp h0 hF f];simp only[az,bt9];have ih:=fun(x:aO)=>wZ k l (acc++[x]) (by simp;omega);have hg:∀x:aO,(acc++[x]).length*40<=140737488355328:=fun x=>by simp;omega
  cases hr:ji p f with
  |none=>
   have e:FJ p f=⟨rf p f,1,[]⟩:=by unfold FJ;rw[hr]
   rw[C0 hr,if_neg (by decide),if_pos (hg _),ih,bh9,e,C0 hr];simp
  |some r=>
   obtain⟨e1,e2,e3⟩:=Ki hr;have e:FJ p f=⟨rf p f,r.Level,ud (Ax r f) p.Waivers 0⟩:=by unfold FJ;rw[hr]
   have h2:=wY hp (F:=F) f r (fun l23=>if (acc++[aO.mk (rf p f) r.Level l23]).length*40<=140737488355328 then lO F p k l (acc++[aO.mk (rf p f) r.Level l23]) else none) p.Waivers 0 [] (fun _ h=>h) (by simp;omega)
   grind
theorem O5(l:List aW)(hl:l.length<=5000):RL F p l=some (l.map (FJ p)):=by
 simp_all[RL,az,wZ]
end
theorem w4(F:Nat)(p:aw)(day:Int)(x:aO)(k:Int->Int->Option (List bE))(c:bN->Bool):∀(l:List bN) (n:Nat),p.Waivers.drop n=l->lP F p day x k (ud c l n)=match E6 (fun w=>c w&&KQ day w) l n with|none=>k (-1) x.level|some (q,v)=>k q v
 |[],n,_=>by rw[ud,lP,E6]
 |w::l,n,h=>by
  obtain⟨hn,hi,hm,hd⟩:=kS h;have ih:=w4 F p day x k c l (n+1) hd;rw[ud,E6];cases c w
  ·grind
  ·simp only[if_true,ah9];rw[lP,az,hi,bt9,ih];unfold KQ
   grind
theorem w5(F:Nat)(p:aw)(day:Int)(k:List bE->Option (List bE)):∀(l:List aW) (n:Nat) (acc:List bE),acc.length+l.length<=5000->nH F p day k (l.map (FJ p)) (n:Int) acc=k (acc++Fe p day l n)
 |[],n,acc,_=>by simp_all[nH,Fe]
 |f::l,n,acc,hl=>by
  simp only[br8] at hl;rw[bh9,nH,Fe];simp only[az];have ih:=fun(x:bE)=>w5 F p day k l (n+1) (acc++[x]) (by simp;omega);have hg:∀x:bE,(acc++[x]).length*32<=140737488355328:=fun x=>by simp;omega
  rw[show((n:Int)+1)=((n+1:Nat):Int) from rfl];cases hr:ji p f with
  |none=>
   have e:FJ p f=⟨rf p f,1,[]⟩:=by unfold FJ;rw[hr]
   have e2:IA p day f n=⟨n,rf p f,-1,1⟩:=by unfold IA;rw[hr]
   rw[e,lP,if_pos (hg _),ih,e2];simp
  |some r=>
   have e:FJ p f=⟨rf p f,r.Level,ud (Ax r f) p.Waivers 0⟩:=by unfold FJ;rw[hr]
   rw[e,w4 F p day _ _ (Ax r f) p.Waivers 0 rfl];cases hw:E6 (fun w=>Ax r f w&&KQ day w) p.Waivers 0 with
   |none=>
    have e2:IA p day f n=⟨n,rf p f,-1,r.Level⟩:=by unfold IA;rw[hr];dsimp only;rw[hw]
    grind
   |some q=>
    obtain⟨q,v⟩:=q;have e2:IA p day f n=⟨n,rf p f,q,v⟩:=by unfold IA;rw[hr];dsimp only;rw[hw]
    grind
theorem O6(F:Nat)(p:aw)(day:Int)(l:List aW)(hl:l.length<=5000):RN F p (l.map (FJ p)) day=some (Fe p day l 0):=by
 unfold RN;have:=w5 F p day (fun l5=>some l5) l 0 [] (by simp;omega)
 simp_all[az]
section
variable{p:aw}(hp:ce p)(h0:vP p=0){F:Nat}(hF:iS p<=F)
include hp h0 hF
omit h0 hF in
end
theorem F4{l:List aW}(h:JX l=0):l.length<=5000:=by
 grind [JX]
noncomputable def vD(p:aw)(l:List aW)(day:Int):Int:=if vP p=0 then (if JX l=0 then (if (decide (day<0)||decide (day>1000000))=true then 9 else 0) else JX l) else vP p
theorem O7(p:aw)(hp:ce p)(l:List aW)(h:NT l)(day:Int)(F:Nat)(hF:iS p<=F):RO F p l day=some (vD p l day):=by
 unfold RO vD;rw[nK p hp F hF,bt9,Md F l h,bt9]
 grind
noncomputable def SK(p:aw)(l:List aW)(day:Int):List bE×Int:=if vD p l day=0 then (Fe p day l 0,0) else ([],vD p l day)
theorem JY{p:aw}{l:List aW}{day:Int}(h:vD p l day=0):vP p=0/\JX l=0/\(decide (day<0)||decide (day>1000000))=false:=by
 unfold vD at h
 grind
theorem PC(p:aw)(hp:ce p)(l:List aW)(h:NT l)(day:Int)(F:Nat)(hF:iS p<=F):PD F p l day=some (SK p l day):=by
 unfold PD SK;rw[O7 p hp l h day F hF,bt9];by_cases h1:vD p l day=0
 ·obtain⟨h2,h3,h4⟩:=JY h1<;>simp_all[O5,F4,O6]
 grind
noncomputable def tq(r:aC):Tr:=zC r.When
abbrev Pr:=Nat×aC
def Es:List aC->Nat->List Pr
 |[],_=>[]
 |r::l,n=>(n,r)::Es l (n+1)
def sM(k:bj)(l:List aC)(n:Nat):List Pr:=(Es l n).filter fun q=>q.2.About==k
def gE(l:List Pr):List Int:=l.map fun q=>(q.1:Int)
theorem C6:∀{l:List aC} {n:Nat} {q:Pr},q∈Es l n->n<=q.1/\l[q.1 - n]? = some q.2
 |r::l,n,q,h=>by
  rcases aq9.1 h with e|h
  ·grind
  ·obtain⟨h1,h2⟩:=C6 h<;>grind
theorem C5:∀(l:List aC) (n:Nat),(Es l n).length=l.length
 |[],_=>rfl
 |r::l,n=>by rw[Es,br8,C5 l,br8]
theorem C3(k:bj)(l:List aC)(n:Nat):(sM k l n).length<=l.length:=by
 unfold sM;have:=ab9 (fun q:Pr=>q.2.About==k) (Es l n)
 simp_all[C5]
theorem C4{k:bj}{l:List aC}{q:Pr}(h:q∈sM k l 0):l[q.1]? = some q.2/\q.2.About=k:=by
 unfold sM at h;obtain⟨h1,h2⟩:=bt8.1 h;exact⟨(C6 h1).2,by grind⟩
theorem oh{α:Type}{l:List α}{i:Nat}{x:α}(h:l[i]? = some x):cH l (i:Int)=some x:=by
 grind [bU]
theorem w7(F:Nat)(k:bj)(kk:List Int->Option (List Int)):∀(l:List aC) (n:Nat) (acc:List Int),acc.length+l.length<=1000->nJ F k kk l (n:Int) acc=kk (acc++gE (sM k l n))
 |[],n,acc,_=>by rw[nJ];simp[sM,Es,gE]
 |r::l,n,acc,h=>by
  simp only[br8] at h;rw[nJ,az,show((n:Int)+1)=((n+1:Nat):Int) from rfl];have ih:=fun acc (ha:acc.length+l.length<=1000)=>w7 F k kk l (n+1) acc ha;unfold sM at ih ⊢;rw[Es,aa8];cases hb:r.About==k
  ·grind
  ·simp only[if_true];rw[if_pos (by simp;omega),ih _ (by simp;omega)];simp[gE]
theorem O8(F:Nat)(p:aw)(k:bj)(h:p.Rules.length<=100):RP F p k=some (gE (sM k p.Rules 0)):=by
 unfold RP;have:=w7 F k (fun l4=>some l4) p.Rules 0 [] (by simp;omega)
 simp_all[az]
noncomputable def vn(l:List Pr):List Lf:=l.flatMap fun q=>(tq q.2).lvs
noncomputable def ir(l:List Pr):List Tr:=l.map fun q=>tq q.2
section
variable{p:aw}(hp:ce p)(h0:vP p=0)
include hp h0
theorem jN{q:Pr}(h:p.Rules[q.1]? = some q.2):q.2.When=(tq q.2).toT/\(tq q.2).ok/\(tq q.2).flt=0/\(tq q.2).cnt<=60/\(tq q.2).fu<=iS p:=
 CJ hp h0 (ae9 _) (aw9 h)
theorem HJ{l:List Pr}(h:∀q,q∈l->p.Rules[q.1]? = some q.2)(hl:l.length<=100):fZ (vn l):=by
 refine⟨fun x hx=>?_,?_⟩
 ·obtain⟨q,hq,hx⟩:=ac8.1 hx;exact xR _ (jN hp h0 (h q hq)).2.2.1 x hx
 ·have:=il (fun q:Pr=>(tq q.2).lvs) 60 l fun q hq=>by
   have h1:=(jN hp h0 (h q hq)).2.2.2.1
   grind [xS]
  grind [vn]
theorem w6(F:Nat)(hF:iS p<=F)(kk:sF->List KV->Option (sF×List KV)):∀(l:List Pr),(∀q,q∈l->p.Rules[q.1]? = some q.2)->∀(all:sF) (B:Nat) (cs:List KV),Bd all B->B+50*(vn l).length<=1000000->cs.length+l.length<=1000->
  nI F p kk (gE l) all cs=kk ((vn l).foldl jv all) (cs++(ir l).map Tr.cd)
 |[],_,all,B,cs,_,_,_=>by simp[gE,vn,ir,nI]
 |q::l,h,all,B,cs,hB,hb,hc=>by
  have hq:=h q (by simp);obtain⟨e1,e2,e3,e4,e5⟩:=jN hp h0 hq;have hlv:vn (q::l)=(tq q.2).lvs++vn l:=by simp[vn]
  rw[hlv,be9] at hb;simp only[br8] at hc;have hlo:=xR _ e3
  rw[show gE (q::l)=(q.1:Int)::gE l from rfl,nI,oh hq,bt9,e1,Jg _ e2 e3 e4 F (by omega),bt9,Po _ e2 e3 F (by omega) all B hB (by omega),bt9,if_pos (by simp;omega),
   w6 F hF kk l (fun x hx=>h x (by simp[hx])) _ _ _ (sW _ all B hB hlo) (by omega) (by simp;omega),hlv,List.foldl_append]
  simp[ir]
end
noncomputable def f3(s:bj->Option Fd):List Tr->Nat->Option Bool
 |[],_=>some false
 |t::_,0=>t.tr3 s
 |t::r,j+1=>Fr ((t.tr3 s).map (!·)) (f3 s r j)
section
variable{p:aw}(hp:ce p)(h0:vP p=0)
include hp h0
end
end Go.Proofs.YtelmfadihfcgnaaGreatDoor
namespace Go.Proofs.YtelmfadihfcgnaaGreatDoor
open Go Go.Pv
set_option maxRecDepth 100000
noncomputable section
def gq(ts:List Tr):Tr:=.mk 7 [] [] 0 0 ts
def kI(t:Tr):Tr:=.mk 6 [] [] 0 0 [t]
def dk:List Tr->Nat->List Tr
 |[],_=>[]
 |t::_,0=>[t]
 |t::r,j+1=>kI t::dk r j
end
theorem MP:∀(ts:List Tr) (j:Nat) (h:j<ts.length),dk ts j=(ts.take j).map kI++[ts[j]]
 |t::r,0,h=>by simp[dk]
 |t::r,j+1,h=>by simp[dk,MP r j (by simpa using h)]
theorem Ix:∀ts:List Tr,dk ts ts.length=ts.map kI
 |[]=>rfl
 |t::r=>by rw[br8,dk,Ix r,bh9]
theorem nY:∀ts:List Tr,Tr.lvss ts=ts.flatMap Tr.lvs
 |[]=>by simp[Tr.lvss]
 |t::r=>by rw[Tr.lvss,nY r,ab8]
theorem tX(ts:List Tr):(gq ts).lvs=ts.flatMap Tr.lvs:=by
 simp_all[gq,Tr.lvs,nY]
theorem Kt(t:Tr):(kI t).lvs=t.lvs:=by
 simp_all[kI,Tr.lvs,nY]
theorem Gf(v:bj->Fd)(t:Tr):(kI t).truA v = !(t.truA v):=by
 simp_all[kI,Tr.truA,Tr.allA]
theorem qL(v:bj->Fd)(ts:List Tr):(gq ts).truA v=Tr.allA v ts:=by
 simp_all[gq,Tr.truA]
theorem Iv:∀(ts:List Tr) (j:Nat) (l:Lf),l∈(dk ts j).flatMap Tr.lvs->l∈ts.flatMap Tr.lvs
 |[],_,l,h=>h
 |t::r,0,l,h=>by
  simp_all[dk]
 |t::r,j+1,l,h=>by
  rw[dk,ab8,Kt] at h;rw[ab8];rcases bu9.1 h with h|h
  ·exact cd9 _ h
  ·exact List.mem_append_right _ (Iv r j l h)
theorem Iu:∀(ts:List Tr) (j:Nat) (u:Tr),u∈dk ts j->u∈ts\/∃t,t∈ts/\u=kI t
 |[],_,u,h=>by simp[dk] at h
 |t::r,0,u,h=>by simp_all[dk]
 |t::r,j+1,u,h=>by
  rw[dk] at h;rcases aq9.1 h with e|h
  ·exact .inr ⟨t,by simp,e⟩
  ·rcases Iu r j u h with h|⟨w,h,e⟩
   ·exact .inl (by simp[h])
   ·exact .inr ⟨w,by simp[h],e⟩
theorem Iw:∀(ts:List Tr) (j:Nat),(dk ts j).length<=ts.length
 |[],_=>by simp[dk]
 |t::r,0=>by simp[dk]
 |t::r,j+1=>by simp[dk,Iw r j]
theorem Hh:NS 0:=⟨by decide,by decide⟩
theorem Qt:NS 6:=⟨by decide,by decide⟩
theorem Qs:NS 7:=⟨by decide,by decide⟩
theorem Qq:NS 8:=⟨by decide,by decide⟩
theorem xM:pc []:=by unfold pc;simp
theorem xK{ts:List Tr}(h:∀t,t∈ts->t.ok)(hl:ts.length<=maxLen):(gq ts).ok:=by
 simp_all[gq,Tr.ok,Qs,xM,Hh,Tr.oks_of]
theorem NQ{t:Tr}(h:t.ok):(kI t).ok:=by
 simp_all[kI,Tr.ok,Qt,xM,Hh,Tr.oks_of,eH]
theorem yj{ts:List Tr}(h:∀t,t∈ts->t.gd):(gq ts).gd:=by
 simp_all[gq,Tr.gd,ur]
theorem KF{t:Tr}(h:t.gd):(kI t).gd:=by
 unfold kI;rw[Tr.gd];refine⟨.inl ?_,ur (by simp[h])⟩;rw[Tr.toKs,Tr.toKs];rfl
theorem KU(t:Tr):(kI t).cnt=1+t.cnt:=by simp_all[kI,Tr.cnt,Tr.cnts]
theorem Oa(t:Tr):(kI t).fu=3+t.fu:=by simp_all[kI,Tr.fu,Tr.fus]
theorem Bx(k op n:Int)(nm:bj)(tx:List bj)(ks:List Tr):(Tr.mk k nm tx op n ks).toT=⟨k,nm,tx,op,n,Tr.toKs ks⟩:=by rw[Tr.toT]
theorem J5(t:Tr):(kI t).toT=⟨6,[],[],0,0,[t.toK]⟩:=by
 simp_all[kI,Bx,Tr.toKs_map]
theorem pM(ts:List Tr):(gq ts).toT=⟨7,[],[],0,0,Tr.toKs ts⟩:=Bx ..
theorem sY(B:Nat):∀ts:List Tr,(∀t,t∈ts->t.cnt<=B)->Tr.cnts ts<=ts.length*B
 |[],_=>by simp[Tr.cnts]
 |t::r,h=>by
  have:=h t (by simp);have:=sY B r fun u hu=>h u (by simp[hu])
  grind [Tr.cnts,Nat.add_mul]
theorem yk(B:Nat):∀ts:List Tr,(∀t,t∈ts->t.fu<=B)->Tr.fus ts<=ts.length*B
 |[],_=>by simp[Tr.fus]
 |t::r,h=>by
  have:=h t (by simp);have:=yk B r fun u hu=>h u (by simp[hu])
  grind [Tr.fus,Nat.add_mul]
theorem Jd(F:Nat)(p:aw)(k:bj)(h:p.Rules.length<=100):PZ F p k=some (gE (sM k p.Rules 0)):=by
 have hloop:∀(m n:Nat),n+m=p.Rules.length->∀acc:List Int,acc.length+m<=1000->nC F p k (fun l4=>some l4) m (n:Int) acc=some (acc++gE (sM k (p.Rules.drop n) n)):=by
  intro m
  induction m with
  |zero=>simp_all[nC,sM,Es,gE]
  |succ m ih=>
   intro n hn acc ha;have hlt:n<p.Rules.length:=by omega
   have ih:=fun acc ha=>ih (n+1) (by omega) acc ha;rw[show((n+1:Nat):Int)=(n:Int)+1 from rfl] at ih;rw[nC,bU hlt,bt9,az,bo8 hlt];unfold sM at ih ⊢;rw[Es,aa8];cases hb:p.Rules[n].About==k
   ·grind
   ·simp only[if_true];rw[if_pos (by simp;omega),ih _ (by simp;omega)];simp[gE]
 unfold PZ;have:=hloop p.Rules.length 0 (by omega) [] (by simp;omega);rw[show((0:Nat):Int)=0 from rfl,bn8,ad9] at this;rw[az,if_pos (by omega),show(((p.Rules.length:Nat):Int)).toNat=p.Rules.length by omega,this]
section
variable{p:aw}(hp:ce p)(h0:vP p=0)
include hp h0
theorem tf{q:Pr}(h:p.Rules[q.1]? = some q.2):c8 ag q.2.When=(tq q.2).toK:=by
 rw[(jN hp h0 h).1];rfl
theorem Jc(F:Nat){l:List Pr}(hl:∀q,q∈l->p.Rules[q.1]? = some q.2)(hn:l.length<=1000):PY F p (gE l)=some (Tr.toKs (ir l)):=by
 have hloop:∀(l:List Pr),(∀q,q∈l->p.Rules[q.1]? = some q.2)->∀acc:List aR,acc.length+l.length<=1000->nB F p (fun l4=>some l4) (gE l) acc=some (acc++(ir l).map Tr.toK):=by
  intro l
  induction l with
  |nil=>simp_all[gE,nB,ir]
  |cons q l ih=>
   intro h acc ha;simp only[br8] at ha;have hq:=h q (by simp);rw[show gE (q::l)=(q.1:Int)::gE l from rfl,nB,oh hq,bt9,tf hp h0 hq,if_pos (by simp;omega),ih (fun x hx=>h x (by simp[hx])) _ (by simp;omega)];simp[ir]
 grind [PY,az,Tr.toKs_map]
theorem O4(F:Nat){l:List Pr}(hl:∀q,q∈l->p.Rules[q.1]? = some q.2)(hn:l.length<=1000)(j:Nat)(hj:j<=l.length):PX F p (gE l) (j:Int)=some (gq (dk (ir l) j)).toT:=by
 have hloop:∀(m n:Nat),n+m<=l.length->∀(k4:List aR->Option aH) (acc:List aR),acc.length+m<=2000->nA F p (gE l) k4 m (n:Int) acc=k4 (acc++(((ir l).drop n).take m).map fun t=>(kI t).toK):=by
  intro m
  induction m with
  |zero=>simp_all[nA]
  |succ m ih=>
   intro n hnm k4 acc ha;have hlt:n<l.length:=by omega
   have hq:=hl l[n] (az8 _);have e1:cH (gE l) (n:Int)=some (l[n].1:Int):=by rw[bU (by simp_all[gE])];simp[gE]
   have e2:(ir l).drop n=tq l[n].2::(ir l).drop (n+1):=by
    rw[bo8 (by simp_all[ir])];simp[ir]
   have e3:c8 ag (aH.mk 6 [] [] 0 0 [c8 ag l[n].2.When])=(kI (tq l[n].2)).toK:=by
    rw[tf hp h0 hq,<-J5];rfl
   rw[nA,e1,bt9,oh hq,bt9];unfold Sd;rw[bt9,e3,if_pos (by simp;omega),show((n:Int)+1)=((n+1:Nat):Int) from rfl,ih (n+1) (by omega) k4 _ (by simp;omega),e2];simp
 have hlen:(gE l).length=l.length:=by simp[gE]
 have htl:(ir l).length=l.length:=by simp[ir]
 unfold PX;rw[az,if_pos (by omega),show((j:Int)).toNat=j by omega,show(0:Int)=((0:Nat):Int) from rfl,hloop j 0 (by omega) _ [] (by simp;omega),az,ad9,bn8];rcases bm8 j l.length with hj|hj
 ·have hq:=hl l[j] (az8 _);have e1:cH (gE l) (j:Int)=some (l[j].1:Int):=by rw[bU (by simp_all[gE])];simp[gE]
  rw[if_pos (decide_eq_true (by omega)),e1,bt9,oh hq,bt9,tf hp h0 hq,if_pos (by simp;omega)];unfold Fw
  show some (aH.mk 7 ([]:B8) ([]:List B8) 0 0 _)=_
  rw[pM,Tr.toKs_map,MP _ _ (by omega),ci9,bb8];simp[ir];rfl
 ·rw[if_neg (by simp;omega),List.take_of_length_le (by omega)];unfold Fw
  show some (aH.mk 7 ([]:B8) ([]:List B8) 0 0 _)=_
  rw[pM,Tr.toKs_map,show j=(ir l).length by omega,Ix,bb8];rfl
theorem Bw{l:List Pr}(hl:∀q,q∈l->p.Rules[q.1]? = some q.2):∀t,t∈ir l->t.ok/\t.gd/\t.cnt<=60/\t.fu<=iS p:=fun t ht=>by
 obtain⟨q,hq,e⟩:=bb9.1 ht<;>grind [jN,N9]
theorem Q3{l:List Pr}(hl:∀q,q∈l->p.Rules[q.1]? = some q.2)(j:Nat):∀t,t∈dk (ir l) j->t.ok/\t.gd/\t.cnt<=61/\t.fu<=iS p+3:=fun t ht=>by
 grind [Iu,Bw,KU,Oa,NQ,KF]
end
theorem uE(ts:List Tr):(gq ts).cnt=1+Tr.cnts ts:=by unfold gq;rw[Tr.cnt]
theorem yl(ts:List Tr):(gq ts).fu=ts.length+2+Tr.fus ts:=by simp_all[gq,Tr.fu]
end Go.Proofs.YtelmfadihfcgnaaGreatDoor
namespace Go.Proofs.YtelmfadihfcgnaaGreatDoor
open Go Go.Pv
set_option maxRecDepth 100000
noncomputable def gB(l:List Pr):List (Tr×Int):=l.map fun q=>(tq q.2,q.2.Level)
noncomputable def EF(s:bj->Option Fd):List (Tr×Int)->Option Int
 |[]=>some 1
 |q::r=>match q.1.tr3 s with
  |some true=>some q.2
  |some false=>EF s r
  |none=>none
noncomputable def sR(v:bj->Fd):List (Tr×Int)->Int
 |[]=>1
 |q::r=>if q.1.truA v=true then q.2 else sR v r
noncomputable def Q4(s:bj->Option Fd)(a b:List (Tr×Int)):Option Bool:=match EF s a,EF s b with
 |some x,some y=>some (x != y)
 |_,_=>none
noncomputable def JJ(v:bj->Fd)(a b:List (Tr×Int)):Bool:=sR v a != sR v b
theorem Ab{s s':bj->Option Fd}(he:ext s s'):∀(l:List (Tr×Int)) (x:Int),EF s l=some x->EF s' l=some x
 |[],x,h=>h
 |q::r,x,h=>by
  rw[EF] at h ⊢;cases h1:q.1.tr3 s with
  |none=>rw[h1] at h;cases h
  |some b=>
   rw[h1] at h;rw[tw he q.1 b h1];cases b with
   |true=>exact h
   |false=>exact Ab he r x h
theorem Ac{s:bj->Option Fd}{a:bj->Fd}:∀(l:List (Tr×Int)),(∀q,q∈l->∀x,x∈q.1.lvs->s x.nm=some (a x.nm))->EF s l=some (sR a l)
 |[],h=>rfl
 |q::r,h=>by
  rw[EF,sR,pL q.1 (h q (by simp)),Ac r fun u hu=>h u (by simp[hu])]
  grind
theorem ww{a b:bj->Fd}:∀(l:List (Tr×Int)),(∀q,q∈l->∀x,x∈q.1.lvs->x.one (a x.nm)=x.one (b x.nm))->sR a l=sR b l
 |[],h=>rfl
 |q::r,h=>by rw[sR,sR,tr q.1 (h q (by simp)),ww r fun u hu=>h u (by simp[hu])]
theorem CQ{l:List Pr}{q:Tr×Int}(h:q∈gB l){x:Lf}(hx:x∈q.1.lvs):x∈vn l:=by
 obtain⟨p,hp,e⟩:=bb9.1 h;exact ac8.2 ⟨p,hp,by grind⟩
theorem wK(la lb:List Pr):M3 (vn la++vn lb) (fun s=>Q4 s (gB la) (gB lb)) (fun v=>JJ v (gB la) (gB lb)):=by
 refine⟨fun s s' b he h=>?_,fun s a h=>?_,fun a b h=>?_⟩
 ·grind [Q4,Ab]
 ·grind [Q4,JJ,Ac,CQ]
 grind [JJ,ww,CQ]
def lo:Option Int->Int×Bool
 |some x=>(x,true)
 |none=>(0,false)
theorem Ja(F:Nat)(m:vO)(kn:Ll)(l:List (Tr×Int))(hl:l.length<=1000)(h:∀q,q∈l->q.1.ok/\q.1.flt=0/\q.1.fu<=F):PV F ⟨l.map (·.1.cd),l.map (·.2)⟩ ⟨m,some kn⟩=some (lo (EF (sgm m kn) l)):=by
 have hloop:∀(k n:Nat),n+k=l.length->ny F ⟨l.map (·.1.cd),l.map (·.2)⟩ ⟨m,some kn⟩ (some (1,true)) ((l.drop n).map (·.1.cd)) (n:Int)=some (lo (EF (sgm m kn) (l.drop n))):=by
  intro k
  induction k with
  |zero=>intro n hn;rw[al9 (by omega),ao9,ny];rfl
  |succ k ih=>
   intro n hn;have hlt:n<l.length:=by omega
   obtain⟨e1,e2,e3⟩:=h l[n] (az8 _);have ih:=ih (n+1) (by omega);rw[show((n+1:Nat):Int)=(n:Int)+1 from rfl] at ih;have ei:cH (l.map (·.2)) (n:Int)=some l[n].2:=by rw[bU (by grind)];simp
   rw[bo8 hlt,bh9,ny,QK m kn l[n].1 e1 e2 F e3,bt9,EF];cases l[n].1.tr3 (sgm m kn) with
   |none=>rfl
   |some b=>cases b with
    |true=>rw[if_pos (by rfl),ei];rfl
    |false=>
     simp_all[zB]
 have:=hloop l.length 0 (by omega)
 simp_all[PV,az]
theorem O2(F:Nat){m:vO}{kn:Ll}{s:M4}(hs:DW m kn s)(a b:List (Tr×Int))(ha:a.length<=1000)(hb:b.length<=1000)(h1:∀q,q∈a->q.1.ok/\q.1.flt=0/\q.1.fu<=F)(h2:∀q,q∈b->q.1.ok/\q.1.flt=0/\q.1.fu<=F):
  O3 F ⟨m,some kn⟩ (a.map (·.1.cd)) (a.map (·.2)) (b.map (·.1.cd)) (b.map (·.2))=some (zB (Q4 (wM s) a b)):=by
 unfold O3 Q4;rw[Ja F m kn a ha h1,Ja F m kn b hb h2,hs.sgm,bt9,bt9];cases EF (wM s) a with
 |none=>rfl
 |some x=>
  cases EF (wM s) b with
  |none=>rfl
  |some y=>
   show(Fv F (x != y)).bind _=_
   simp_all[fe,tp]
theorem sQ{p:aw}(hp:ce p)(h0:vP p=0){l:List Pr}(h:∀q,q∈l->p.Rules[q.1]? = some q.2)(hl:l.length<=100):(∀x,x∈vn l->jB x)/\(vn l).length<=6000:=by
 refine⟨(HJ hp h0 h hl).1,?_⟩
 have:=il (fun q:Pr=>(tq q.2).lvs) 60 l fun q hq=>by
  have h1:=(jN hp h0 (h q hq)).2.2.2.1
  grind [xS]
 grind [vn]
theorem Jb{p:aw}(hp:ce p)(h0:vP p=0)(F:Nat)(hF:iS p<=F)(k:bj)(all:sF)(B:Nat)(hB:Bd all B)(hb:B+300000<=1000000):
  PW F p k all=some ((vn (sM k p.Rules 0)).foldl jv all,(gB (sM k p.Rules 0)).map (·.1.cd),(gB (sM k p.Rules 0)).map (·.2)):=by
 have h100:=(ld h0).1;have hg:∀q,q∈sM k p.Rules 0->p.Rules[q.1]? = some q.2:=fun q hq=>(C4 hq).1;have hl:(sM k p.Rules 0).length<=100:=by have:=C3 k p.Rules 0;omega
 have hlv:=(sQ hp h0 hg hl).2
 have hloop:∀(l:List Pr),(∀q,q∈l->p.Rules[q.1]? = some q.2)->∀(kk:List Int->Option (sF×List KV×List Int)) (acc:List Int),acc.length+l.length<=1000->nz F p kk (gE l) acc=kk (acc++l.map fun q=>q.2.Level):=by
  intro l
  induction l with
  |nil=>simp_all[gE,nz]
  |cons q l ih=>
   intro h kk acc ha;simp only[br8] at ha;rw[show gE (q::l)=(q.1:Int)::gE l from rfl,nz,oh (h q (by simp)),bt9,if_pos (by simp;omega),ih (fun x hx=>h x (by simp[hx])) kk _ (by simp;omega)];simp
 unfold PW;rw[O8 F p k h100,bt9];unfold Sf;rw[az,w6 hp h0 F hF _ _ hg all B [] hB (by omega) (by simp;omega),bt9,az,hloop _ hg _ [] (by simp;omega)];simp[gB,ir]
theorem Eh{l:List bj}(h:l.Nodup):oX (eA l):=by
 grind [Gd,xU,GP,Ei]
def gD(m:vO)(ns:List bj):List bu:=ns.flatMap fun n=>if (gV m n).hasText=true then [⟨n,(gV m n).text⟩] else []
def gF(m:vO)(ns:List bj):List aL:=ns.flatMap fun n=>if (gV m n).hasNumber=true then [⟨n,(gV m n).number⟩] else []
theorem Ed(m:vO)(ns:List bj):(gD m ns).length<=ns.length:=by
 have:=il (fun n=>if (gV m n).hasText=true then [(⟨n,(gV m n).text⟩:bu)] else []) 1 ns fun n _=>by grind
 grind [gD]
theorem Ex(m:vO)(ns:List bj):(gF m ns).length<=ns.length:=by
 have:=il (fun n=>if (gV m n).hasNumber=true then [(⟨n,(gV m n).number⟩:aL)] else []) 1 ns fun n _=>by grind
 grind [gF]
theorem xg(F:Nat)(m:vO)(kind:bj):∀(l:List bj) (A:List bu) (B:List aL),A.length+l.length<=100000->B.length+l.length<=100000->
  nP F m (fun(l10:List bu) (l11:List aL)=>some (aW.mk kind ([]:B8) l10 l11)) l A B=some ⟨kind,[],A++gD m l,B++gF m l⟩
 |[],A,B,_,_=>by rw[nP];simp[gD,gF]
 |n::l,A,B,hA,hB=>by
  simp only[br8] at hA hB;have ih:=fun A B hA hB=>xg F m kind l A B hA hB;have hg:(aY m n).getD (ac.mk false false ([]:B8) 0)=gV m n:=rfl;have p1:∀x:bu,(A++[x]).length*32<=140737488355328:=fun x=>by simp;omega
  have p2:∀x:aL,(B++[x]).length*24<=140737488355328:=fun x=>by simp;omega
  rw[nP];simp only[az,hg,if_pos (p1 _),if_pos (p2 _)];unfold gD gF at ih ⊢
  grind
theorem zD{a:List bu}(ha:a.Pairwise fun x y=>Op.bytesLess x.Name y.Name=true)(hn:∀x,x∈a->cO x.Name=true/\je x.Value=true):∀(l:List bu) (n:Nat),a.drop n=l->Eg a l n=0
 |[],n,_=>by rw[Eg]
 |x::l,n,h=>by
  obtain⟨h1,_,h3,h4⟩:=kS h;obtain⟨g1,g2⟩:=hn x h3;rw[Eg,if_neg (by grind),if_neg (by grind),if_neg ?_,zD ha hn l (n+1) h4];intro hc;rw[ao8,decide_eq_true_eq] at hc;have hx:a[n]=x:=by rw[bo8 h1] at h;exact(ag9 h).1
  have hp:=au9.1 ha (n - 1) n (by omega) h1 (by omega);rw[hx] at hp;have hd:a.getD (n - 1) ⟨[],[]⟩=a[n - 1]:=by rw[ch8,ax9 (by omega)];rfl
  rw[hd] at hc;unfold PN at hc;rw[ap8,beq_iff_eq] at hc
  grind [uJ]
theorem zX{a:List aL}(ha:a.Pairwise fun x y=>Op.bytesLess x.Name y.Name=true)(hn:∀x,x∈a->cO x.Name=true/\ka x.N):∀(l:List aL) (n:Nat),a.drop n=l->FL a l n=0
 |[],n,_=>by rw[FL]
 |x::l,n,h=>by
  obtain⟨h1,_,h3,h4⟩:=kS h;obtain⟨g1,g2⟩:=hn x h3;unfold ka at g2
  have g3:pQ x.N=false:=by
   unfold pQ;rw[decide_eq_false (by omega),decide_eq_false (by omega)];rfl
  rw[FL,if_neg (by grind),if_neg (by grind),if_neg ?_,zX ha hn l (n+1) h4];intro hc;rw[ao8,decide_eq_true_eq] at hc;have hx:a[n]=x:=by rw[bo8 h1] at h;exact(ag9 h).1
  have hp:=au9.1 ha (n - 1) n (by omega) h1 (by omega);rw[hx] at hp;have hd:a.getD (n - 1) ⟨[],0⟩=a[n - 1]:=by rw[ch8,ax9 (by omega)];rfl
  rw[hd] at hc;unfold PN at hc;rw[ap8,beq_iff_eq] at hc
  grind [uJ]
theorem vV{m:vO}{ns:List bj}{x:bu}:x∈gD m ns<->x.Name∈ns/\(gV m x.Name).hasText=true/\x.Value=(gV m x.Name).text:=by
 unfold gD;rw[ac8];constructor
 ·grind
 ·rintro⟨h1,h2,h3⟩
  exact⟨x.Name,h1,by rw[if_pos h2,<-h3];simp⟩
theorem wq{m:vO}{ns:List bj}{x:aL}:x∈gF m ns<->x.Name∈ns/\(gV m x.Name).hasNumber=true/\x.N=(gV m x.Name).number:=by
 unfold gF;rw[ac8];constructor
 ·grind
 ·rintro⟨h1,h2,h3⟩
  exact⟨x.Name,h1,by rw[if_pos h2,<-h3];simp⟩
theorem Ec{m:vO}:∀{ns:List bj},oX ns->(gD m ns).Pairwise fun x y=>Op.bytesLess x.Name y.Name=true
 |[],_=>by simp[gD]
 |n::r,h=>by
  grind [gD]
theorem Ew{m:vO}:∀{ns:List bj},oX ns->(gF m ns).Pairwise fun x y=>Op.bytesLess x.Name y.Name=true
 |[],_=>by simp[gF]
 |n::r,h=>by
  grind [gF]
theorem ym(m:vO)(nm:bj):∀(ns:List bj) (p:Bool×bj),fT nm (gD m ns) p=if nm∈ns/\(gV m nm).hasText=true then (true,(gV m nm).text) else p
 |[],p=>by simp[gD,fT]
 |n::r,p=>by
  have e:gD m (n::r)=(if (gV m n).hasText=true then [⟨n,(gV m n).text⟩] else [])++gD m r:=by unfold gD;grind
  rw[e];by_cases h:(gV m n).hasText=true
  ·rw[if_pos h,List.singleton_append,fT];dsimp only;by_cases en:n=nm
   ·simp_all[ym]
   ·rw[if_neg (by grind),ym m nm r]
    grind
  ·rw[if_neg h,ad9,ym m nm r]
   grind
theorem yo(m:vO)(nm:bj):∀(ns:List bj) (p:Bool×Int),fN nm (gF m ns) p=if nm∈ns/\(gV m nm).hasNumber=true then (true,(gV m nm).number) else p
 |[],p=>by simp[gF,fN]
 |n::r,p=>by
  have e:gF m (n::r)=(if (gV m n).hasNumber=true then [⟨n,(gV m n).number⟩] else [])++gF m r:=by unfold gF;grind
  rw[e];by_cases h:(gV m n).hasNumber=true
  ·rw[if_pos h,List.singleton_append,fN];dsimp only;by_cases en:n=nm
   ·simp_all[yo]
   ·rw[if_neg (by grind),yo m nm r]
    grind
  ·rw[if_neg h,ad9,yo m nm r]
   grind
theorem NP{u v:Fd}(l:Lf)(h1:u.isText=v.isText)(h2:u.isText=true->u.text=v.text)(h3:u.isNumber=v.isNumber)(h4:u.isNumber=true->u.number=v.number):l.one u=l.one v:=by
 unfold Lf.one iz;rw[<-h1,<-h3];split
 ·rfl
 ·split<;>grind
theorem Ie(m:vO)(kind:bj)(ns:List bj)(hns:∀n,n ∉ ns->gV m n=zV)(l:Lf)(n:bj):l.one (oU ⟨kind,[],gD m ns,gF m ns⟩ n)=l.one (qN (gV m n)):=by
 unfold oU qN;dsimp only;rw[ym,yo];by_cases hn:n∈ns
 ·refine NP l ?_ ?_ ?_ ?_
  ·grind
  ·grind
  ·grind
  grind
 ·rw[hns n hn,if_neg fun h=>hn h.1,if_neg fun h=>hn h.1];rfl
theorem JU{s:bj}(h:qY s):je s=true:=by
 unfold je;rw[ao8,decide_eq_true_eq,ap9];refine⟨h.1,fun c hc=>?_⟩;have:=h.2 c hc
 simp_all[Bs]
theorem q8{s:bj}(h:cO s=true):s.length<=40:=by
 unfold cO at h
 grind
theorem Pk{ls:List Lf}(hg:fZ ls)(hw:jI ls=true)(kind:bj)(hk:pc kind)(hkn:cO kind=true)(F:Nat)(ns:List bj)(by_:List (bj×List ac))(c1:List KV)(n1:List Int)(c2:List KV)(n2:List Int)(m:vO)(kn:Ll)(s:M4)
  (hs:DW m kn s) (hv:∀n x,s n=some x->zT (qN x)/\n∈se ls):∃f,P2 F ns by_ m kn c1 n1 c2 n2 kind=some f/\f.Kind=kind/\f.Subject=[]/\okTFact' f/\vF f=0/\(∀(l:Lf) n,l.one (oU f n)=l.one (qN (gV m n)))/\∀n,gV m n=(s n).getD zV:=by
 have hkey:∀n,n∈m.map (·.1)->∃x,s n=some x:=fun n hn=>by
  cases hx:s n with
  |some x=>grind
  |none=>exact absurd hn (q9.1 ((hs.fm n).trans hx))
 have hin:∀n,n∈m.map (·.1)->n∈se ls:=fun n hn=>by
  grind
 have hnb:∀n,n∈m.map (·.1)->cO n=true/\∃l,l∈ls/\l.nm=n:=fun n hn=>by
  obtain⟨l,hl,e⟩:=(nU hg).1 (hin n hn);exact⟨e ▸ (hg.1 l hl).nm,l,hl,e⟩
 have hkl:(m.map (·.1)).length<=17:=bq8 (fU hs.nm hin) (uv hg hw);have hml:m.length<=17:=by simpa using hkl
 obtain⟨l7,hl7⟩:∃l7,l7=eA (m.map (·.1)):=⟨_,rfl⟩;have hmem:∀n,n∈l7<->n∈m.map (·.1):=fun n=>by grind [dY]
 have hl7l:l7.length<=17:=by rw[hl7,(dY _).length_eq];exact hkl
 have hsk:rJ m=some l7:=by
  unfold rJ;rw[if_pos ⟨by omega,fun p hp=>by grind [q8]⟩,hl7]
 have hsrt:oX l7:=by rw[hl7];exact Eh hs.nm
 have hgv:∀n,gV m n=(s n).getD zV:=fun n=>by unfold gV;rw[hs.fm]
 have hz':∀n,n ∉ l7->gV m n=zV:=fun n hn=>by
  have:=q9.2 (fun h=>hn ((hmem n).2 h))
  simp_all[gV]
 have htl:=Ed m l7;have hnl:=Ex m l7
 have hval:∀n,n∈l7->zT (qN (gV m n)):=fun n hn=>by
  grind
 refine⟨⟨kind,[],gD m l7,gF m l7⟩,?_,Y,Y,?_,?_,?_⟩
 ·unfold P2;rw[hsk,bt9,az,xg F m kind l7 [] [] (by simp;omega) (by simp;omega)];rfl
 ·refine⟨hk,by simp[pc],fun p hp=>?_,by grind [eH],fun p hp=>?_,by grind [eH]⟩
  ·obtain⟨h1,h2,h3⟩:=vV.1 hp;have a1:=q8 (hnb _ ((hmem _).1 h1)).1;have a2:=((hval _ h1).1 h2).1
   grind [pc,qN]
  ·obtain⟨h1,h2,h3⟩:=wq.1 hp<;>grind [q8,pc]
 ·unfold vF;dsimp only;rw[hkn,if_neg (by simp),show je []=true from rfl,if_neg (by simp),if_neg (by omega),if_pos (zD (Ec hsrt) (fun x hx=>?_) (gD m l7) 0 bn8),if_neg (by omega),zX (Ew hsrt) (fun x hx=>?_) (gF m l7) 0 bn8]
  ·obtain⟨h1,h2,h3⟩:=wq.1 hx;exact⟨(hnb _ ((hmem _).1 h1)).1,by rw[h3];exact(hval _ h1).2 h2⟩
  ·obtain⟨h1,h2,h3⟩:=vV.1 hx;exact⟨(hnb _ ((hmem _).1 h1)).1,by rw[h3];exact JU ((hval _ h1).1 h2)⟩
 simp_all[Ie]
noncomputable def la(p:aw)(k:bj):List Pr:=sM k p.Rules 0
noncomputable def sS(p q:aw)(k:bj):List Lf:=vn (la p k)++vn (la q k)
section
variable{p q:aw}(hp:ce p)(hq:ce q)(h0:vP p=0)(h1:vP q=0)
theorem gI{p:aw}{k:bj}:∀r,r∈la p k->p.Rules[r.1]? = some r.2:=fun r hr=>(C4 hr).1
theorem kb{p:aw}(h0:vP p=0)(k:bj):(la p k).length<=100:=by
 grind [ld,C3,la]
include hp hq h0 h1
theorem tY(k:bj):fZ (sS p q k):=by
 obtain⟨a1,a2⟩:=sQ hp h0 gI (kb h0 k);obtain⟨b1,b2⟩:=sQ hq h1 gI (kb h1 k);refine⟨fun x hx=>(bu9.1 hx).elim (a1 x) (b1 x),?_⟩
 grind [sS]
theorem PB{k:bj}(hk:pc k)(hkn:cO k=true)(F:Nat)(hF:iS p+iS q+1300100<=F):
  (jI (sS p q k)=false/\FN F p q k=some (⟨[],[],[],[]⟩,false,3)) ∨
  (jI (sS p q k)=true/\(¬JN fun v=>JJ v (gB (la p k)) (gB (la q k)))/\FN F p q k=some (⟨[],[],[],[]⟩,false,0)) ∨
  (jI (sS p q k)=true/\(JN fun v=>JJ v (gB (la p k)) (gB (la q k)))/\∃f,FN F p q k=some (f,true,0)/\f.Kind=k/\f.Subject=[]/\okTFact' f/\vF f=0/\JJ (oU f) (gB (la p k)) (gB (la q k))=true):=by
 have hg:=tY hp hq h0 h1 k;have hla:=kb h0 k;have hlb:=kb h1 k;obtain⟨a1,a2⟩:=sQ hp h0 gI hla;have hB0:Bd [] 0:=⟨fun n=>by simp[aY],fun n=>by simp[eR,aY,BB]⟩;have hB1:=sW _ [] 0 hB0 a1;have e1:=Jb hp h0 F (by omega) k [] 0 hB0 (by omega);have e2:=Jb hq h1 F (by omega) k _ _ hB1 (by omega);rw[show sM k p.Rules 0=la p k from rfl] at e1;rw[show sM k q.Rules 0=la q k from rfl,<-List.foldl_append,show(vn (la p k)++vn (la q k)).foldl jv []=fi (sS p q k) from rfl] at e2
 have hoa:∀r,r∈gB (la p k)->r.1.ok/\r.1.flt=0/\r.1.fu<=iS p:=fun r hr=>by
  obtain⟨x,hx,e⟩:=bb9.1 hr<;>grind [jN,gI]
 have hob:∀r,r∈gB (la q k)->r.1.ok/\r.1.flt=0/\r.1.fu<=iS q:=fun r hr=>by
  obtain⟨x,hx,e⟩:=bb9.1 hr<;>grind [jN,gI]
 have e0:FN F p q k=(P3 F (fi (sS p q k))).bind fun y19=>if (!y19)=true then some (⟨[],[],[],[]⟩,false,3) else (Pn F (fi (sS p q k)) ((gB (la p k)).map (·.1.cd)) ((gB (la p k)).map (·.2)) ((gB (la q k)).map (·.1.cd)) ((gB (la q k)).map (·.2))).bind fun y23=>(zp F 0 (y23.1) ((gB (la p k)).map (·.1.cd)) ((gB (la p k)).map (·.2)) ((gB (la q k)).map (·.1.cd)) ((gB (la q k)).map (·.2)) (y23.2) [] []).bind fun y26=>if (!(y26.1))=true then some (⟨[],[],[],[]⟩,false,0)
 else (P2 F (y23.2) (y23.1) (y26.2.1) (y26.2.2) ((gB (la p k)).map (·.1.cd)) ((gB (la p k)).map (·.2)) ((gB (la q k)).map (·.1.cd)) ((gB (la q k)).map (·.2)) k).bind fun y29=>some (y29,true,0):=by
  unfold FN;rw[nK p hp F (by omega),h0,bt9,if_neg (by decide),nK q hq F (by omega),h1,bt9,if_neg (by decide),lR F k hk,hkn,bt9,if_neg (by decide),az,e1,bt9];dsimp only;rw[e2,bt9];rfl
 rw[e0,RS F hg,bt9];cases hf:jI (sS p q k) with
 |false=>grind
 |true=>
  right
  obtain⟨by_,m',kn',r,g1,g2,g3,g4⟩:=Ep hg hf (wK (la p k) (la q k)) (iS p+iS q) ((gB (la p k)).map (·.1.cd)) ((gB (la p k)).map (·.2)) ((gB (la q k)).map (·.1.cd)) ((gB (la q k)).map (·.2)) (fun F m kn s hF hs=>O2 F hs _ _ (by grind [gB]) (by grind [gB]) (fun r hr=>⟨(hoa r hr).1,(hoa r hr).2.1,by grind⟩) (fun r hr=>⟨(hob r hr).1,(hob r hr).2.1,by grind⟩)) F (by omega);rw[if_neg (by decide),g1,bt9];dsimp only;rw[g2,bt9];dsimp only;cases r with
  |false=>grind
  |true=>
   obtain⟨s',hs,c1,c2⟩:=g4 rfl;obtain⟨f,m1,m2,m3,m4,m5,m6,m7⟩:=Pk hg hf k hk hkn F (se (sS p q k)) by_ ((gB (la p k)).map (·.1.cd)) ((gB (la p k)).map (·.2)) ((gB (la q k)).map (·.1.cd)) ((gB (la q k)).map (·.2)) m' kn' s' hs c2;refine .inr ⟨Y,g3.1 Y,f,?_,m2,m3,m4,m5,?_⟩
   ·grind
   ·have hc:=wK (la p k) (la q k)
    have h6:=hc.mono (wM s') (fun n=>some (qN (gV m' n))) true (fun n x hx=>by
     unfold wM at hx
     show some (qN (gV m' n))=some x
     rw[m7];cases hn:s' n<;>simp_all) c1
    rw[hc.full _ (fun n=>qN (gV m' n)) fun _ _=>rfl] at h6;have:=hc.congr (oU f) (fun n=>qN (gV m' n)) fun l _=>m6 l l.nm
    grind
end
end Go.Proofs.YtelmfadihfcgnaaGreatDoor
namespace Go.Proofs.YtelmfadihfcgnaaGreatDoor
open Go Go.Pv
set_option maxRecDepth 100000
def NZ(l:List Pr)(j:Nat):Int:=match l[j]? with
 |some q=>q.2.Level
 |none=>1
noncomputable section
def B3(l:List Pr)(i:Int):List Nat->List Tr
 |[]=>[]
 |j::r=>if NZ l j=i then gq (dk (ir l) j)::B3 l i r else B3 l i r
def Ao(l:List Pr)(i:Int):Tr:=.mk 8 [] [] 0 0 (B3 l i (List.range' 0 (l.length+1)))
end
theorem ol{l:List Pr}{i:Int}{t:Tr}:∀{js:List Nat},t∈B3 l i js<->∃j,j∈js/\NZ l j=i/\t=gq (dk (ir l) j)
 |[]=>by simp[B3]
 |j::r=>by
  rw[B3];split
  ·rename_i h;rw[aq9,ol];constructor
   ·rintro(e|⟨k,a,b⟩)
    ·exact⟨j,by simp,h,e⟩
    ·exact⟨k,by simp[a],b⟩
   ·rintro⟨k,a,b,c⟩
    rcases aq9.1 a with e|a
    ·subst e;exact .inl c
    ·exact .inr ⟨k,a,b,c⟩
  ·rename_i h;rw[ol];constructor
   ·rintro⟨k,a,b⟩
    exact⟨k,by simp[a],b⟩
   ·rintro⟨k,a,b,c⟩
    rcases aq9.1 a with e|a
    ·subst e;exact absurd b h
    ·exact⟨k,a,b,c⟩
theorem Dn(l:List Pr)(i:Int):∀js:List Nat,(B3 l i js).length<=js.length
 |[]=>by simp[B3]
 |j::r=>by
  have:=Dn l i r;rw[B3];split<;>simp<;>omega
theorem yO(v:bj->Fd):∀(ts:List Tr) (j:Nat),j<=ts.length->(Tr.allA v (dk ts j)=true<->j=ts.findIdx (Tr.truA v))
 |[],j,h=>by
  simp_all[dk,Tr.allA]
 |t::r,0,_=>by
  rw[dk,Tr.allA,Tr.allA,Bool.and_true,cc9]
  grind
 |t::r,j+1,h=>by
  have ih:=yO v r j (by grind);rw[dk,Tr.allA,Gf,ao8,ih,cc9]
  grind
theorem HK(v:bj->Fd):∀l:List Pr,sR v (gB l)=NZ l ((ir l).findIdx (Tr.truA v))
 |[]=>rfl
 |q::l=>by
  have ih:=HK v l;rw[show gB (q::l)=(tq q.2,q.2.Level)::gB l from rfl,show ir (q::l)=tq q.2::ir l from rfl,sR,cc9,ih];cases Tr.truA v (tq q.2)<;>simp_all[NZ]
theorem AX(v:bj->Fd):∀ts:List Tr,Tr.anyA v ts=true<->∃t,t∈ts/\Tr.truA v t=true
 |[]=>by simp[Tr.anyA]
 |t::r=>by
  rw[Tr.anyA,ap8,AX v r];simp
theorem KD(v:bj->Fd)(l:List Pr)(i:Int):Tr.truA v (Ao l i)=true<->sR v (gB l)=i:=by
 have htl:(ir l).length=l.length:=by simp[ir]
 have hix:=List.findIdx_le_length (xs:=ir l) (p:=Tr.truA v);unfold Ao;rw[Tr.truA,if_neg (by decide),if_neg (by decide),if_neg (by decide),if_pos rfl,AX,HK];constructor
 ·rintro⟨t,ht,h⟩
  obtain⟨j,a,b,c⟩:=ol.1 ht<;>grind [qL,yO]
 ·intro h;exact⟨_,ol.2 ⟨_,List.mem_range'_1.2 ⟨ai8 _,by omega⟩,h,rfl⟩,by simp_all[qL,yO]⟩
theorem Dm{l:List Pr}{i:Int}{x:Lf}(h:x∈(Ao l i).lvs):x∈vn l:=by
 unfold Ao at h;rw[Tr.lvs,if_neg (by decide),nY] at h;obtain⟨t,ht,hx⟩:=ac8.1 h;obtain⟨j,a,b,c⟩:=ol.1 ht;rw[c,tX] at hx;have:=Iv _ _ _ hx
 simp_all[ir,vn,List.flatMap_map]
section
variable{p:aw}(hp:ce p)(h0:vP p=0)
include hp h0
theorem H7(k:bj)(i:Int):(Ao (la p k) i).ok/\(Ao (la p k) i).gd/\(Ao (la p k) i).cnt<=620000/\(Ao (la p k) i).fu<=20000*(iS p+100):=by
 have hl:=kb h0 k;have htl:(ir (la p k)).length=(la p k).length:=by simp[ir]
 have hgl:=Dn (la p k) i (List.range' 0 ((la p k).length+1));rw[List.length_range'] at hgl
 have hb:∀t,t∈B3 (la p k) i (List.range' 0 ((la p k).length+1))->t.ok/\t.gd/\t.cnt<=6101/\t.fu<=102+100*(iS p+3):=fun t ht=>by
  obtain⟨j,a,b,c⟩:=ol.1 ht;have hd:=Q3 hp h0 gI j (l:=la p k);have hdl:=Iw (ir (la p k)) j;have hc:=sY 61 _ fun t h=>(hd t h).2.2.1;have hfu:=yk (iS p+3) _ fun t h=>(hd t h).2.2.2;have hf2:=bc9 (iS p+3) (show(dk (ir (la p k)) j).length<=100 by omega)
  grind [xK,eH,yj,uE,yl]
 have hc:=sY 6101 _ fun t h=>(hb t h).2.2.1;have hfu:=yk (102+100*(iS p+3)) _ fun t h=>(hb t h).2.2.2;have hf2:=bc9 (102+100*(iS p+3)) (show(B3 (la p k) i (List.range' 0 ((la p k).length+1))).length<=101 by omega)
 grind [Ao,Tr.ok,Qq,xM,Hh,Tr.oks_of,eH,Tr.gd,ur,Tr.cnt,Tr.fu]
theorem I9(F:Nat)(hF:1000<=F)(k:bj)(i:Int):JL F p (gE (la p k)) i=some (Ao (la p k) i).toT:=by
 have hl:=kb h0 k;have hlen:(gE (la p k)).length=(la p k).length:=by simp[gE]
 have hloop:∀(m n:Nat),n+m=(la p k).length+1->∀fuel,m<fuel->∀(kk:List aR->Option aH) (acc:List aR),acc.length+m<=1000->ku F p (gE (la p k)) i kk fuel (n:Int) acc=kk (acc++(B3 (la p k) i (List.range' n m)).map Tr.toK):=by
  intro m
  induction m with
  |zero=>
   intro n hn fuel hf kk acc ha;obtain⟨fuel,rfl⟩:∃g,fuel=g+1:=⟨fuel - 1,by omega⟩;rw[ku,if_neg (by simp;omega)];simp[B3]
  |succ m ih=>
   intro n hn fuel hf kk acc ha;obtain⟨fuel,rfl⟩:∃g,fuel=g+1:=⟨fuel - 1,by omega⟩;have ih:=fun acc ha=>ih (n+1) (by omega) fuel (by omega) kk acc ha;rw[show((n+1:Nat):Int)=(n:Int)+1 from rfl] at ih
   have hbody:∀lv:Int,NZ (la p k) n=lv->(if (lv==i)=true then (PX F p (gE (la p k)) (n:Int)).bind fun y21=>if (acc++([c8 ag y21]:List aR)).length*88<=140737488355328 then ku F p (gE (la p k)) i kk fuel (bt ((n:Int)+1)) (acc++([c8 ag y21]:List aR)) else none else ku F p (gE (la p k)) i kk fuel (bt ((n:Int)+1)) acc)=kk (acc++(B3 (la p k) i (List.range' n (m+1))).map Tr.toK):=fun lv e=>by
    rw[cA (by omega) (by omega),List.range'_succ,B3,e];by_cases h:lv=i
    ·rw[if_pos (by simp[h]),if_pos h,O4 hp h0 F gI (by omega) n (by omega),bt9,if_pos (by simp;omega),ih _ (by simp;omega)];rw[bv8];rfl
    grind
   rw[ku,if_pos (decide_eq_true (by omega)),az];rcases bm8 n (la p k).length with h|h
   ·have e1:cH (gE (la p k)) (n:Int)=some ((la p k)[n].1:Int):=by rw[bU (by omega)];simp[gE]
    rw[if_pos (decide_eq_true (by omega)),e1,bt9,oh (gI _ (az8 h)),bt9];exact hbody _ (by simp_all[NZ])
   ·rw[if_neg (by simp;omega)];exact hbody _ (by simp_all[NZ])
 unfold JL;rw[az,show(0:Int)=((0:Nat):Int) from rfl,hloop ((la p k).length+1) 0 (by omega) F (by omega) _ [] (by simp;omega)]
 simp_all[Ao,Bx,Tr.toKs_map]
end
end Go.Proofs.YtelmfadihfcgnaaGreatDoor
