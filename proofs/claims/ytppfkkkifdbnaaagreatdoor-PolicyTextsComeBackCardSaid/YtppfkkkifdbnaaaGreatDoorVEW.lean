/- Part of the proof. -/
import Derived.Test.YtppfkkkifdbnaaaGreatDoorVEX
set_option linter.unusedSimpArgs false
set_option linter.unusedVariables false
namespace Go.Pv
open Go
section
variable{K:Ctx}{Q:Post}{S S':St}{ops:Array Oper}{rest:List Oper}{t:TT}
def mpL(f:V->Option V):List V->Option (List V)
 |[]=>some []
 |x::l=>(match f x with|some y=>(match mpL f l with|some r=>some (y::r)|none=>none)|none=>none)
def mpV(f:Nat->Option Nat):Nat->V->Option V
 |0,_=>none
 |n+1,v=>(match v with
  | .con v=>some (.con v)
  | .agg cs=>(match mpL (mpV f n) cs with|some r=>some (.agg r)|none=>none)
  | .tup cs=>(match mpL (mpV f n) cs with|some r=>some (.tup r)|none=>none)
  | .fn g a b=>(match mpL (mpV f n) a,mpL (mpV f n) b with|some r,some q=>some (.fn g r q)|_,_=>none)
  | .ptr id k i o=>(match f id with|some j=>some (.ptr j k i o)|none=>none)
  | .own id l=>(match f id with|some j=>some (.own j l)|none=>none)
  | .map id=>(match f id with|some j=>some (.map j)|none=>none)
  |_=>none)
theorem mpL_at{f:V->Option V}:∀{l r:List V},mpL f l=some r->r.length=l.length/\∀(i:Nat) c c',l[i]? = some c->r[i]? = some c'->f c=some c'
 |[],r,h=>by simp_all[mpL]
 |x::l,r,h=>by
  simp only[mpL] at h
  split at h
  ·rename_i y hy
   split at h
   ·rename_i q hq
    simp at h;subst h
    obtain⟨h1,h2⟩:=mpL_at hq
    refine⟨by simp[h1],fun i c c' a b=>?_⟩
    cases i with
    |zero=>simp at a b;subst a;subst b;exact hy
    |succ i=>exact h2 i c c' (by simpa using a) (by simpa using b)
   ·simp at h
  ·simp at h
theorem mpV_ok{f:Nat->Option Nat}{m:Mem}{β β':Locs}(hf:∀i j,f i=some j->β' j=β i):∀{n:Nat} {v v':V} {x:Value},mpV f n v=some v'->VRel m β v x->VRel m β' v' x
 |0,v,v',x,h=>by simp[mpV] at h
 |n+1,v,v',x,h=>by
  intro hv
  have lst:∀{cs r:List V} {vs:Array Value},mpL (mpV f n) cs=some r->cs.length=vs.size->(∀(i:Nat) c v,cs[i]? = some c->vs[i]? = some v->VRel m β c v)->r.length=vs.size/\∀(i:Nat) c v,r[i]? = some c->vs[i]? = some v->VRel m β' c v:=by
   intro cs r vs hr hl hh
   obtain⟨a1,a2⟩:=mpL_at hr
   refine⟨a1.trans hl,fun i c v hc hx=>?_⟩
   have hi:i<cs.length:=by rw[<-a1];exact(aw8.1 hc).1
   exact mpV_ok hf (a2 i _ _ (as8 hi) hc) (hh i _ v (as8 hi) hx)
  cases v with
  |con c=>simp[mpV] at h;subst h;rw[hv.of_con];exact .imm (.con _)
  |agg cs=>
   simp only[mpV] at h
   split at h
   ·rename_i r hr
    simp at h;subst h
    obtain⟨vs,rfl,h2,h3⟩:=agg_inv hv
    obtain⟨b1,b2⟩:=lst hr h2 h3
    exact .agg b1 b2
   ·simp at h
  |tup cs=>
   simp only[mpV] at h
   split at h
   ·rename_i r hr
    simp at h;subst h
    cases hv with
    |imm hv=>cases hv with|tup hl hh=>obtain⟨b1,b2⟩:=lst hr hl (fun i c v a b=>.imm (hh i c v a b));exact .tup b1 b2
    |tup hl hh=>obtain⟨b1,b2⟩:=lst hr hl hh;exact .tup b1 b2
   ·simp at h
  |fn g a b=>
   simp only[mpV] at h
   split at h
   ·rename_i r q hr hq
    simp at h;subst h
    cases hv with
    |imm hv=>cases hv with|fn hl hl' h1 h2=>obtain⟨b1,b2⟩:=lst hr hl (fun i c v a b=>.imm (h1 i c v a b));obtain⟨c1,c2⟩:=lst hq hl' (fun i c v a b=>.imm (h2 i c v a b));exact .fn b1 c1 b2 c2
    |fn hl hl' h1 h2=>obtain⟨b1,b2⟩:=lst hr hl h1;obtain⟨c1,c2⟩:=lst hq hl' h2;exact .fn b1 c1 b2 c2
   ·simp at h
  |ptr id k i o=>
   simp only[mpV] at h
   split at h
   ·rename_i j hj
    simp at h;subst h
    cases hv with
    |imm hv=>cases hv
    |ptr hb=>exact .ptr (by rw[hf _ _ hj];exact hb)
   ·simp at h
  |own id l=>
   simp only[mpV] at h
   split at h
   ·rename_i j hj
    simp at h;subst h
    cases hv with
    |imm hv=>cases hv
    |ownNil hb=>exact .ownNil (by rw[hf _ _ hj];exact hb)
    |own hb=>exact .own (by rw[hf _ _ hj];exact hb)
   ·simp at h
  |map id=>
   simp only[mpV] at h
   split at h
   ·rename_i j hj
    simp at h;subst h
    cases hv with
    |imm hv=>cases hv
    |map hb=>exact .map (by rw[hf _ _ hj];exact hb)
   ·simp at h
  |_=>simp[mpV] at h
theorem mpV_deep{f:Nat->Option Nat}{n:Nat}{v v':V}(h:mpV f n v=some v'):v.deep=false:=by
 cases n with
 |zero=>simp[mpV] at h
 |succ n=>cases v<;>first|rfl|simp[mpV] at h
def mpR(f:Nat->Option Nat):List (List V)->Option (List (List V))
 |[]=>some []
 |x::l=>(match mpL (mpV f 12) x with|some y=>(match mpR f l with|some r=>some (y::r)|none=>none)|none=>none)
def mpM(f:Nat->Option Nat):List (Value×V)->Option (List (Value×V))
 |[]=>some []
 |(k,x)::l=>(match mpV f 12 x with|some y=>(match mpM f l with|some r=>some ((k,y)::r)|none=>none)|none=>none)
def mpO(f:Nat->Option Nat):Ob->Option Ob
 | .dead=>some .dead
 | .arr e k rows=>(match mpR f rows with|some r=>some (.arr e k r)|none=>none)
 | .map es=>(match mpM f es with|some r=>some (.map r)|none=>none)
 | .res=>none
 | .iter _ _=>none
 | .bld _ _ _ _=>none
def ViaY(Y:Hy)(f:Nat->Option Nat):Prop:=∀m β m' β',Y m β m' β'->m'=m/\∀i j,f i=some j->β' j=β i
theorem mpV_sub{Y:Hy}{f:Nat->Option Nat}(hY:ViaY Y f){n:Nat}{v v':V}(h:mpV f n v=some v'):Sub Y v' v:=fun m β m' β' x hy hx=>by
 obtain⟨rfl,hf⟩:=hY _ _ _ _ hy
 grind [mpV_ok]
theorem mpV_csub{Y:Hy}{f:Nat->Option Nat}(hY:ViaY Y f){n:Nat}{v v':V}(h:mpV f n v=some v'):CSub Y v' v:=.sub (mpV_sub hY h) (mpV_deep h)
theorem mpR_at{f:Nat->Option Nat}:∀{l r:List (List V)},mpR f l=some r->r.length=l.length/\∀(i:Nat) c c',l[i]? = some c->r[i]? = some c'->mpL (mpV f 12) c=some c'
 |[],r,h=>by simp_all[mpR]
 |x::l,r,h=>by
  simp only[mpR] at h
  split at h
  ·rename_i y hy
   split at h
   ·rename_i q hq
    simp at h;subst h
    obtain⟨h1,h2⟩:=mpR_at hq
    refine⟨by simp[h1],fun i c c' a b=>?_⟩
    cases i with
    |zero=>simp at a b;subst a;subst b;exact hy
    |succ i=>exact h2 i c c' (by simpa using a) (by simpa using b)
   ·simp at h
  ·simp at h
theorem mpM_at{f:Nat->Option Nat}:∀{l r:List (Value×V)},mpM f l=some r->r.length=l.length/\∀(i:Nat) c c',l[i]? = some c->r[i]? = some c'->c'.1=c.1/\mpV f 12 c.2=some c'.2
 |[],r,h=>by simp_all[mpM]
 |(k,x)::l,r,h=>by
  simp only[mpM] at h
  split at h
  ·rename_i y hy
   split at h
   ·rename_i q hq
    simp at h;subst h
    obtain⟨h1,h2⟩:=mpM_at hq
    refine⟨by simp[h1],fun i c c' a b=>?_⟩
    cases i with
    |zero=>simp at a b;subst a;subst b;exact⟨rfl,hy⟩
    |succ i=>exact h2 i c c' (by simpa using a) (by simpa using b)
   ·simp at h
  ·simp at h
theorem mpO_sub{Y:Hy}{f:Nat->Option Nat}(hY:ViaY Y f){ob ob':Ob}(h:mpO f ob=some ob'):ObSub Y ob' ob:=by
 cases ob with
 |dead=>simp[mpO] at h;subst h;trivial
 |res=>simp[mpO] at h
 |iter c l=>simp[mpO] at h
 |bld T e l=>simp[mpO] at h
 |arr e k rows=>
  simp only[mpO] at h
  split at h
  ·rename_i r hr
   simp at h;subst h
   obtain⟨h1,h2⟩:=mpR_at hr
   refine⟨rfl,rfl,h1,fun i r' r0 a b=>?_⟩
   grind [mpL_at,mpV_csub]
  grind
 |map es=>
  simp only[mpO] at h
  split at h
  ·rename_i r hr
   simp at h;subst h
   obtain⟨h1,h2⟩:=mpM_at hr
   refine⟨h1,fun i p p' a b=>?_⟩
   grind [mpV_csub]
  grind
theorem mpL_subs{Y:Hy}{f:Nat->Option Nat}(hY:ViaY Y f){n:Nat}:∀{l r:List V},mpL (mpV f n) l=some r->Subs Y r l
 |[],r,h=>by simp[mpL] at h;subst h;exact .nil
 |x::l,r,h=>by
  simp only[mpL] at h
  split at h
  ·rename_i y hy
   split at h
   ·rename_i q hq
    simp at h;subst h;exact .cons (mpV_sub hY hy) (mpL_subs hY hq)
   ·simp at h
  ·simp at h
def idsL(f:V->List Nat):List V->List Nat
 |[]=>[]
 |x::l=>f x++idsL f l
def idsV:Nat->V->List Nat
 |0,_=>[]
 |n+1,v=>(match v with
  | .agg cs=>idsL (idsV n) cs
  | .tup cs=>idsL (idsV n) cs
  | .fn _ a b=>idsL (idsV n) a++idsL (idsV n) b
  | .ptr id _ _ _=>[id]
  | .own id _=>[id]
  | .map id=>[id]
  |_=>[])
def idsR:List (List V)->List Nat
 |[]=>[]
 |r::l=>idsL (idsV 12) r++idsR l
def idsM:List (Value×V)->List Nat
 |[]=>[]
 |p::l=>idsV 12 p.2++idsM l
def idsO:Ob->List Nat
 | .arr _ _ rows=>idsR rows
 | .map es=>idsM es
 |_=>[]
def reachC(hp:Heap):Nat->List Nat->List Nat->Option (List Nat)
 |0,_,_=>none
 |n+1,l,acc=>(match l with
  |[]=>some acc
  |i::l=>(match notin i acc with
   |false=>reachC hp n l acc
   |true=>reachC hp n (idsO (hget hp i)++l) (acc++[i])))
def idxJ:List Nat->Nat->Nat->Option Nat
 |[],_,_=>none
 |x::l,j,i=>bif Nat.beq x i then some j else idxJ l (j+1) i
theorem idxJ_ok:∀{l:List Nat} {j i r:Nat},idxJ l j i=some r->∃q,r=j+q/\lgt l q=some i
 |x::l,j,i,r,h=>by
  simp only[idxJ] at h
  cases hb:Nat.beq x i with
  |true=>rw[hb] at h;simp at h;exact⟨0,h.symm,by rw[bw8 hb];rfl⟩
  |false=>
   rw[hb] at h;simp at h
   obtain⟨q,h1,h2⟩:=idxJ_ok h
   exact⟨q+1,by omega,h2⟩
 |[],j,i,r,h=>by simp[idxJ] at h
def inH(f:Nat->Option Nat)(hp:Heap):Nat->List Nat->Option (Heap×Heap)
 |_,[]=>some ([],[])
 |j,i::l=>(match mpO f (hget hp i) with
  |some ob=>(match inH f hp (j+1) l with|some (h,r)=>some ((j,ob)::h,(i,hget hp i)::r)|none=>none)
  |none=>none)
theorem inH_ok{Y:Hy}{f:Nat->Option Nat}(hY:ViaY Y f){hp hpS:Heap}{R0:List Nat}:∀{l:List Nat} {j:Nat} {h r:Heap},(∀q i,lgt l q=some i->lgt R0 (j+q)=some i)->inH f hp j l=some (h,r)->RdH hpS r->
  HpSub Y R0.length (sg R0) hpS h
 |[],j,h,r,hR,hh,hr=>by simp[inH] at hh;obtain⟨rfl,rfl⟩:=hh;exact .nil
 |i::l,j,h,r,hR,hh,hr=>by
  simp only[inH] at hh
  split at hh
  ·rename_i ob ho
   split at hh
   ·rename_i h' r' hq
    simp at hh;obtain⟨rfl,rfl⟩:=hh
    have h0:=hR 0 i rfl
    obtain⟨a1,a2⟩:=sg_lgt h0
    simp only[az9] at a1 a2
    refine .cons a1 ?_ (inH_ok hY (fun q i' hq'=>by have:=hR (q+1) i' hq';grind) hq hr.2)
    rw[a2,hr.1]
    exact mpO_sub hY ho
   grind
  grind
theorem inH_rd{f:Nat->Option Nat}{hp:Heap}:∀{l:List Nat} {j:Nat} {h r:Heap},inH f hp j l=some (h,r)->RdH hp r
 |[],j,h,r,hh=>by simp[inH] at hh;obtain⟨rfl,rfl⟩:=hh;trivial
 |i::l,j,h,r,hh=>by
  simp only[inH] at hh
  split at hh
  ·split at hh
   ·rename_i h' r' hq
    simp at hh;obtain⟨rfl,rfl⟩:=hh
    exact⟨rfl,inH_rd hq⟩
   ·simp at hh
  ·simp at hh
def outH(f:Nat->Option Nat)(hp':Heap):Nat->List Nat->Option Heap
 |_,[]=>some []
 |j,i::l=>(match mpO f (hget hp' j) with
  |some ob=>(match outH f hp' (j+1) l with|some u=>some ((i,ob)::u)|none=>none)
  |none=>none)
theorem outH_ok{Y:Hy}{f:Nat->Option Nat}(hY:ViaY Y f){hp':Heap}{R0:List Nat}:∀{l:List Nat} {j:Nat} {u:Heap},(∀q i,lgt l q=some i->lgt R0 (j+q)=some i)->j+l.length=R0.length->outH f hp' j l=some u->HpTo Y (sg R0) hp' R0.length j u
 |[],j,u,hR,hl,h=>by simp[outH] at h;subst h;simp at hl;subst hl;exact .nil
 |i::l,j,u,hR,hl,h=>by
  simp only[outH] at h
  split at h
  ·rename_i ob ho
   split at h
   ·rename_i u' hu
    simp at h;subst h
    have h0:=hR 0 i rfl
    obtain⟨a1,a2⟩:=sg_lgt h0
    simp only[az9] at a1 a2
    exact .cons a2 (mpO_sub hY ho) (outH_ok hY (fun q i' hq'=>by have:=hR (q+1) i' hq';grind) (by grind) hu)
   grind
  grind
def seqF(fr:Nat):Nat->List Nat
 |0=>[]
 |n+1=>fr::seqF (fr+1) n
def resL:List Nat->Heap->Bool
 |[],_=>true
 |i::l,hp=>(match hgC hp i with|some .res=>resL l hp|_=>false)
def resD(l:List Nat):Heap:=l.map fun i=>(i,.res)
theorem resL_rd:∀{l:List Nat} {hp:Heap},resL l hp=true->RdH hp (resD l)
 |[],hp,_=>trivial
 |i::l,hp,h=>by
  simp only[resL] at h
  split at h
  ·rename_i ho;exact⟨hgC_ok ho,resL_rd h⟩
  ·simp at h
theorem rdH_app{hp:Heap}:∀{a b:Heap},RdH hp (a++b)<->RdH hp a/\RdH hp b
 |[],b=>by simp[RdH]
 |(i,o)::a,b=>by
  simp_all[rdH_app,RdH,and_assoc]
theorem resD_at:∀{l:List Nat} {hp:Heap},RdH hp (resD l)->∀i,i∈l->hget hp i=.res
 |[],_,_,i,hi=>by simp at hi
 |j::l,hp,h,i,hi=>by
  rcases am8.1 hi with rfl|hi
  ·exact h.1
  ·exact resD_at (l:=l) h.2 i hi
theorem seqF_mem:∀{n fr i:Nat},i∈seqF fr n<->fr<=i/\i<fr+n
 |0,fr,i=>by simp[seqF]
 |n+1,fr,i=>by simp only[seqF,am8,seqF_mem (n:=n)];omega
theorem lgt_sg{R:List Nat}{j i:Nat}(h:lgt R j=some i):sg R j=i/\j<R.length:=by
 obtain⟨a,b⟩:=sg_lgt h<;>simp_all
def clB(cb:Nat->List V->Heap->Nat->Option (V×Heap×Nat))(f:Nat)(avs:List V)(hp:Heap)(fr nx:Nat):Option (V×Heap×Heap×Nat):=
 match reachC hp 2000 (idsL (idsV 12) avs) [] with
 |some R=>(match mpL (mpV (idxJ R 0) 12) avs with
  |some avs'=>(match inH (idxJ R 0) hp 0 R with
   |some (hpc,rh)=>(match cb f avs' hpc R.length with
    |some (dc,hp',k')=>
     let nw:=seqF fr (k' - R.length)
     let ρ:=R++nw
     (match Nat.ble R.length k'&&resL nw hp&&toB R.length k' nx nx (sg R) (sg ρ) (fun i=>Nat.ble fr i&&Nat.blt i (fr+(k' - R.length)))&&injB k' (sg ρ) with
     |true=>(match mpV (lgt ρ) 12 dc with
      |some dv=>(match outH (lgt ρ) hp' 0 ρ with
       |some u=>some (dv,rh++resD nw,u,fr+(k' - R.length))
       |none=>none)
      |none=>none)
     |false=>none)
    |none=>none)
   |none=>none)
  |none=>none)
 |none=>none
theorem clB_ok{cb:Nat->List V->Heap->Nat->Option (V×Heap×Nat)}(hcb:∀f avs hp k v hp' k',cb f avs hp k=some (v,hp',k')->fnOk K.P f=true/\MutG K.gl K.P f avs k hp v k' hp'){f:Nat}{avs:List V}{hp rh u:Heap}{fr fr' nx d:Nat}{dv:V}
  (h:clB cb f avs hp fr nx=some (dv,rh,u,fr')) (hpin:K.pins<=fr) (ht:TTok K.P t) {o:Oper} {e:Env} (hc:clX t e o.op=some (f,avs)) (hdst:o.dst=some d) (hN:Nat.blt d K.N=true):
  RdH hp rh/\fr<=fr'/\∀S,S.nx=nx->Ag e S->RdH S.hp rh->Wants ops S o true->AOps K ops rest Q ⟨(d,dv)::S.env,u++S.hp,S.nx⟩->AOps K ops (o::rest) Q S:=by
 unfold clB at h
 split at h
 ·rename_i R hR
  split at h
  ·rename_i avs' ha
   split at h
   ·rename_i hpc rh0 hin
    split at h
    ·rename_i dc hp' k' hcall
     obtain⟨q1,q2⟩:=hcb _ _ _ _ _ _ _ hcall
     simp only at h
     split at h
     ·rename_i hb
      simp only[al9] at hb
      obtain⟨⟨⟨b1,b2⟩,b3⟩,b4⟩:=hb
      have b1':=ar9 b1
      split at h
      ·rename_i dv' hdv
       split at h
       ·rename_i u' hu
        simp only[aq8,Prod.mk.injEq] at h
        obtain⟨rfl,rfl,rfl,rfl⟩:=h
        have hl:(R++seqF fr (k' - R.length)).length=k':=by
         have:∀n fr,(seqF fr n).length=n:=by intro n;induction n with|zero=>intro _;rfl|succ n ih=>simp_all[seqF]
         simp[this];omega
        have hYR:ViaY (Ren R.length (sg R)) (idxJ R 0):=by
         rintro m β m' β' ⟨rfl,hy⟩
         refine⟨rfl,fun i j hij=>?_⟩
         obtain⟨q,e1,e2⟩:=idxJ_ok hij
         obtain⟨s1,s2⟩:=lgt_sg e2
         grind
        have hYT:ViaY (To k' (sg (R++seqF fr (k' - R.length)))) (lgt (R++seqF fr (k' - R.length))):=by
         rintro m β m' β' ⟨rfl,hy⟩
         refine⟨rfl,fun i j hij=>?_⟩
         obtain⟨s1,s2⟩:=lgt_sg hij
         grind
        refine⟨rdH_app.2 ⟨inH_rd hin,resL_rd b2⟩,Nat.le_add_right _ _,fun S hn hag hrd hw kk=>?_⟩
        obtain⟨r1,r2⟩:=rdH_app.1 hrd
        have hun:HpTo (To k' (sg (R++seqF fr (k' - R.length)))) (sg (R++seqF fr (k' - R.length))) hp' k' 0 u':=by
         have:=outH_ok (R0:=R++seqF fr (k' - R.length)) hYT (j:=0) (fun q i h=>by grind) (by simp) hu
         rw[hl] at this;exact this
        refine aops_mcalls (sg R) (sg (R++seqF fr (k' - R.length))) S.nx u' _ hw hdst hN (clX_run0 ht hag hc q1) (mpL_subs hYR ha) (HpSub.get (inH_ok hYR (fun q i h=>by grind) hin r1)) q2 (fun i hi=>?_) (by rw[hn];exact b3) b4
         (bx8 (ab8 _)) b1 (fun i hi=>?_) (mpV_sub hYT hdv) hun kk
        ·simp only[al9] at hi
         exact resD_at r2 i (seqF_mem.2 ⟨ar9 hi.1,ar9 hi.2⟩)
        ·simp only[al9] at hi
         exact bk8 hpin (ar9 hi.1)
       grind
      grind
     grind
    grind
   grind
  grind
 grind
def ltH(nx:Nat):Heap->Heap
 |[]=>[]
 |(i,o)::l=>bif Nat.blt i nx then (i,o)::ltH nx l else ltH nx l
def preH(hp:Heap):Nat->Nat->Heap->Heap
 |_,0,r=>r
 |i,n+1,r=>(match hget hp i with | .res=>preH hp (i+1) n r | .dead=>preH hp (i+1) n r|o=>(i,o)::preH hp (i+1) n r)
def dropR(nx n:Nat)(hp:Heap):Heap:=preH hp nx n (ltH nx hp)
theorem blt_ite(i n:Nat){α:Type}(a b:α):(bif Nat.blt i n then a else b)=if i<n then a else b:=by
 simp_all
theorem ltH_at(nx:Nat):∀(l:Heap) (t:Nat),hget (ltH nx l) t=if t<nx then hget l t else .dead
 |[],t=>by simp[ltH,hget]
 |(i,o)::l,t=>by
  have ih:=ltH_at nx l t
  simp only[ltH,blt_ite]
  split
  ·rename_i h
   rw[hget_put,hget_put,ih]
   grind
  ·rename_i h
   rw[ih,hget_put]
   grind
theorem preH_at(hp:Heap):∀(n i:Nat) (r:Heap) (t:Nat),hget (preH hp i n r) t=hget r t\/(i<=t/\hget (preH hp i n r) t=hget hp t)
 |0,i,r,t=>.inl rfl
 |n+1,i,r,t=>by
  have ih:=preH_at hp n (i+1) r t
  simp only[preH]
  split
  ·grind
  ·grind
  ·rw[hget_put]
   grind
theorem dropR_at(nx n:Nat)(hp:Heap)(t:Nat):hget (dropR nx n hp) t=hget hp t\/hget (dropR nx n hp) t=.dead:=by
 grind [dropR,preH_at,ltH_at]
theorem Rel.less{m:Mem}{β:Locs}{w:World}{a:Act}(r:Rel K m β w a S){hp:Heap}(h:∀t,hget hp t=hget S.hp t\/hget hp t=.dead):Rel K m β w a ⟨S.env,hp,S.nx⟩:=by
 have hl:∀i,hget hp i≠.dead->hget S.hp i≠.dead:=fun i hi=>by grind
 constructor
 ·exact r.imm
 ·exact r.ext
 ·exact r.mold
 ·exact r.frame
 ·exact r.size
 ·exact r.same
 ·exact r.tn
 ·exact r.df
 ·exact r.env
 ·intro id
  show ObOk m β w _ _ (hget hp id)
  rcases h id with e|e
  ·rw[e];exact r.own id
  simp_all[ObOk.dead']
 ·exact fun id b cap hi=>r.priv id b cap (hl id hi)
 ·exact fun id id' b cap cap' hi hi'=>r.inj id id' b cap cap' (hl id hi) (hl id' hi')
 ·exact fun id x hi hx=>(r.hid id x (hl id hi) hx).weak hl
 ·exact r.nx
 ·exact r.pin
theorem ghost_less{e:Env}{hp hp':Heap}{nx:Nat}(h:∀t,hget hp' t=hget hp t\/hget hp' t=.dead):Ghost K ⟨e,hp,nx⟩ ⟨e,hp',nx⟩:=fun m β _ _ r=>⟨m,β,r.less h⟩
end
section
variable{K:Ctx}{Q:Post}{S S':St}{ops:Array Oper}{rest:List Oper}{t:TT}{ty:TypeId}{pos:String}{after:Array Edge}{g:Option (Nat×Bool)}
theorem ghost_resNil(u q e k:Nat)(ht:get S.env u=nV)(hq:hget S.hp q=.res)(hlt:q<S.nx)(hpin:K.pins<=q):Ghost K S ⟨(u,.own q 0)::S.env,(q,.arr e k [])::S.hp,S.nx⟩:=by
 intro m β w a r
 have hf:β q=none:=r.free hq
 let β':Locs:=⟨fun i=>if i=q then some none else β i,fun i=>if i=q then fun _=>False else β.hid i⟩
 have hq':β' q=some none:=by show(if q=q then _ else _)=_;grind
 have ho:∀i,i≠q->β' i=β i:=fun i h=>by grind
 have hle:β.le β':=fun i l h=>by
  grind
 have hn:β'.hid q=fun _=>False:=by show(if _ then _ else _)=_;grind
 have hho:∀i,i≠q->β'.hid i=β.hid i:=fun i h=>by grind
 have hlive:∀i,i≠q->hget ((q,Ob.arr e k [])::S.hp) i≠.dead->hget S.hp i≠.dead:=by
  intro i h hi
  rw[hget_put,if_neg (Ne.symm h)] at hi;exact hi
 refine⟨m,β',r.imm,r.ext,r.mold,r.frame,r.size,r.same,r.tn,r.df,?_,?_,?_,?_,?_,fun id h=>(ho id (by grind)).trans (r.nx id h),fun p hp=>⟨(r.pin p hp).1,(ho p (by omega)).trans (r.pin p hp).2⟩⟩
 ·intro i
  show VRel m β' (get ((u,.own q 0)::S.env) i) _
  rw[get_put]
  split
  ·rename_i h;subst h
   have:=r.env u
   rw[ht] at this
   rw[this.of_con];exact .ownNil hq'
  ·exact(r.env i).mono (Mem.le_refl _) hle
 ·intro id
  show ObOk m β' w (β'.hid id) (β' id) (hget ((q,Ob.arr e k [])::S.hp) id)
  rw[hget_put]
  split
  ·simp_all[ObOk]
  ·rename_i h;rw[hho id (Ne.symm h),ho id (Ne.symm h)];exact ObOk.mono (Mem.le_refl _) hle (fun _ _ h=>h) (fun _ _=>rfl) (r.own id)
 ·intro id b cap hl hb
  by_cases h:id=q
  ·grind
  ·rw[ho id h] at hb;exact r.priv id b cap (hlive id h hl) hb
 ·intro id id' b c c' hl hl' hb hb'
  by_cases h:id=q
  ·grind
  ·by_cases h':id'=q
   ·grind
   ·rw[ho id h] at hb;rw[ho id' h'] at hb';exact r.inj id id' b c c' (hlive id h hl) (hlive id' h' hl') hb hb'
 ·intro id x hl hx
  by_cases h:id=q
  ·grind
  ·rw[hho id h] at hx
   have z:=r.hid id x (hlive id h hl) hx
   refine⟨z.lt,z.m,z.old,fun i b c hi hb=>?_,fun i hi hx'=>?_⟩
   ·by_cases h':i=q
    ·grind
    ·rw[ho i h'] at hb;exact z.ne i b c (hlive i h' hi) hb
   ·by_cases h':i=q
    ·grind
    ·rw[hho i h'] at hx';exact z.un i (hlive i h' hi) hx'
theorem aops_appendNil_at{d T T' e k bytes n' nx u:Nat}{x:Operand}{sv:V}(idn q:Nat)(hid:(Nat.blt idn nx&&Nat.ble K.pins idn)=true)(hidq:(Nat.blt q nx&&Nat.ble K.pins q)=true)(hne:idn≠q)(hnxx:S.nx=nx)(hres:hget S.hp idn=.res)(hresq:hget S.hp q=.res)(rows2:List (List V))(hT:tyEl K.P T e k bytes=true)(hT':tySlice K.P T'=true)
  (hpos:Nat.blt 0 bytes=true) (hkp:Nat.blt 0 k=true)
  (hw:Wants ops S ⟨some d,.call ⟨.builtin .append,#[.tmp u,x],#[T,T']⟩,ty,pos,after,none⟩ true)
  (hs:get S.env u=nV) (hx:evl K ⟨(u,.own q 0)::S.env,(q,.arr e k [])::S.hp,S.nx⟩ x=sv) (hsrc:Src ⟨(u,.own q 0)::S.env,(q,.arr e k [])::S.hp,S.nx⟩ k sv rows2)
  (hn':rows2.length=n') (hb:n'*bytes<=140737488355328) (hN:Nat.blt d K.N=true)
  (kk:AOps K ops rest Q ⟨(d,.own idn n')::(u,.any)::S.env,(idn,.arr e k rows2)::(q,.dead)::S.hp,S.nx⟩):
  AOps K ops (⟨some d,.call ⟨.builtin .append,#[.tmp u,x],#[T,T']⟩,ty,pos,after,none⟩::rest) Q S:=by
 simp only[al9] at hidq
 refine aops_ghost (ghost_resNil u q e k hs hresq (by simp_all) (ar9 hidq.2)) ?_
 refine aops_append_at (S:=⟨(u,.own q 0)::S.env,(q,.arr e k [])::S.hp,S.nx⟩) (id:=q) (n:=0) (rows:=[]) idn hid hnxx (by simp_all[hget_put,Ne.symm]) rows2 rows2 hT hT' hpos hkp rfl (by show get ((u,.own q 0)::S.env) u=_;simp_all[get_put]) (by simp_all[hget_put]) rfl hx hsrc rfl hn' hb hN ?_
 refine aops_ghost (ghost_idn ((d,.own idn n')::(u,.any)::S.env) ((idn,.arr e k rows2)::(q,.dead)::S.hp) (fun i=>?_) (fun i=>?_)) kk
 ·grind [get_put,Sub.keepI,Sub.any]
 ·show ObSub Idn (hget ((idn,.arr e k rows2)::(q,.dead)::S.hp) i) (hget ((idn,.arr e k rows2)::(q,.dead)::(q,.arr e k [])::S.hp) i)
  simp_all[hget_put,ObSub.keep,Sub.keepI]
def srcY(k:Nat)(e:Env)(hp:Heap)(y:Operand):Option (List (List V)):=match evC e y with
 |some (.own id2 n2)=>(match hgC hp id2 with
  |some (.arr _ k3 rows2)=>(match Nat.beq k3 k&&Nat.beq rows2.length n2&&ndR rows2 with|true=>some rows2|false=>none)
  |_=>none)
 |some (.con (.slice none 0 0))=>some []
 |_=>none
theorem srcY_ok{k:Nat}{e:Env}{hp:Heap}{y:Operand}{rows2:List (List V)}(h:srcY k e hp y=some rows2)(ha:Ag e S)(hh:AgH hp S):Src S k (evl K S y) rows2:=by
 unfold srcY at h
 split at h
 ·rename_i id2 n2 hy
  split at h
  ·rename_i k3 rows3 ho
   split at h
   ·rename_i hb
    simp only[al9] at hb
    simp only[aq8] at h;subst h
    have e4:=bw8 hb.1.1
    subst e4
    rw[evC_ok ha hy]
    exact .own (hh _ _ ho) (bw8 hb.1.2) (fun row hr c hc=>by
     obtain⟨j,hj⟩:=aw9 hc
     exact ndB_at (ndR_ok hb.2 row hr) hj)
   grind
  grind
 ·rename_i hy
  simp only[aq8] at h;subst h
  rw[evC_ok ha hy];exact .nil
 grind
def apY(t:TT)(d:Nat)(e:Env)(hp:Heap)(fr:Nat):Op->Option (Env×Heap×Nat)
 | .call c=>(match c.callee,c.args.toList,c.argTypes.toList with
  | .builtin .append,[.tmp a,y],[T,T']=>(match ask t T TF.qEl,ask t T' TF.qSn with
   |some (ety,k,bytes),some _=>(match Nat.blt 0 bytes&&Nat.blt 0 k with
    |true=>(match srcY k e hp y with
     |some rows2=>(match gtC e a with
      |some (.own id n)=>(match hgC hp id with
       |some (.arr e2 k2 rows)=>(match Nat.beq ety e2&&Nat.beq k k2&&Nat.beq rows.length n&&Nat.ble ((rows++rows2).length*bytes) 140737488355328 with
        |true=>some ([(d,.own fr (rows++rows2).length)],[(fr,.arr ety k (rows++rows2)),(id,.dead)],1)
        |false=>none)
       |_=>none)
      |some (.con (.slice none 0 0))=>(match Nat.ble (rows2.length*bytes) 140737488355328&&(match y with | .tmp b=>bif Nat.beq b a then false else true|_=>true) with
       |true=>some ([(d,.own fr rows2.length),(a,.any)],[(fr,.arr ety k rows2),(fr+1,.dead)],2)
       |false=>none)
      |_=>none)
     |none=>none)
    |false=>none)
   |_,_=>none)
  |_,_,_=>none)
 |_=>none
theorem src_S1{k u q e:Nat}{sv:V}{rows2:List (List V)}(h:Src S k sv rows2)(hq:hget S.hp q=.res):Src ⟨(u,.own q 0)::S.env,(q,.arr e k [])::S.hp,S.nx⟩ k sv rows2:=by
 cases h with
 |own ho hn hd=>
  exact .own (by
   rw[hget_put]
   split
   ·rename_i h;subst h;rw[hq] at ho;simp at ho
   ·exact ho) hn hd
 |lst h=>exact .lst h
 |nil=>exact .nil
 |str hk hr=>exact .str hk hr
theorem apY_ok{op:Op}(ht:TTok K.P t){d:Nat}{e:Env}{hp:Heap}{fr nx q:Nat}{ue:Env}{uh:Heap}(ha:Ag e S)(hh:AgH hp S)(hnx:S.nx=nx)(h:apY t d e hp fr op=some (ue,uh,q))(hres:∀i,fr<=i->i<fr+q->hget S.hp i=.res/\i<nx)(hpin:K.pins<=fr)
  (hN:Nat.blt d K.N=true) (k:AOps K ops rest Q ⟨ue++S.env,uh++S.hp,S.nx⟩):AOps K ops (⟨some d,op,ty,pos,after,none⟩::rest) Q S:=by
 cases op<;>simp only[apY,reduceCtorEq] at h
 rename_i c
 obtain⟨callee,args,at'⟩:=c
 simp only at h
 split at h
 ·rename_i a y T T' hargs hats
  have hargs:=toList_two hargs
  have hats:=toList_two hats
  subst hargs;subst hats
  split at h
  ·rename_i ety kk bytes _ hT hT'
   split at h
   ·rename_i hb0
    simp only[al9] at hb0
    split at h
    ·rename_i rows2 hy
     have hsrc:=srcY_ok (K:=K) hy ha hh
     split at h
     ·rename_i id n hx
      split at h
      ·rename_i e2 k2 rows ho
       split at h
       ·rename_i hb
        simp only[al9] at hb
        have e1:=bw8 hb.1.1.1
        have e2:=bw8 hb.1.1.2
        have e3:=bw8 hb.1.2
        subst e1;subst e2
        simp only[aq8,Prod.mk.injEq] at h;obtain⟨rfl,rfl,rfl⟩:=h
        obtain⟨r1,r2⟩:=hres fr (ab8 _) (ah9 _)
        exact aops_append_at fr (by simp only[al9];exact⟨bx8 r2,bx8 hpin⟩) hnx r1 rows2 _ (askEl ht hT) (askSn ht hT') hb0.1 hb0.2 rfl (ha _ _ hx) (hh _ _ ho) e3 rfl hsrc rfl rfl (ar9 hb.2) hN k
       ·simp at h
      ·simp at h
     ·rename_i hx
      split at h
      ·rename_i hb
       simp only[al9] at hb
       simp only[aq8,Prod.mk.injEq] at h;obtain⟨rfl,rfl,rfl⟩:=h
       obtain⟨r1,r2⟩:=hres fr (ab8 _) (by omega)
       obtain⟨q1,q2⟩:=hres (fr+1) (ah8 _) (by omega)
       have hey:evl K ⟨(a,.own (fr+1) 0)::S.env,(fr+1,.arr ety kk [])::S.hp,S.nx⟩ y=evl K S y:=by
        cases y with
        |tmp b=>
         have hba:b≠a:=fun e=>by
          subst e;have:=hb.2;simp at this
         show get ((a,.own (fr+1) 0)::S.env) b=get S.env b
         rw[get_put,if_neg (Ne.symm hba)]
        |const v=>rfl
        |global g=>rfl
        |func f=>rfl
       refine aops_appendNil_at fr (fr+1) (by simp only[al9];exact⟨bx8 r2,bx8 hpin⟩) (by simp only[al9];exact⟨bx8 q2,bx8 (Nat.le_succ_of_le hpin)⟩) (by omega) hnx r1 q1 rows2 (askEl ht hT) (askSn ht hT') hb0.1 hb0.2 rfl (ha _ _ hx) hey (src_S1 hsrc q1) rfl (ar9 hb.1) hN k
      ·simp at h
     ·simp at h
    ·simp at h
   ·simp at h
  ·simp at h
 ·simp at h
end
section
variable{K:Ctx}{Q:Post}{S S':St}{ops:Array Oper}{rest:List Oper}{t:TT}
def od2(cb:Nat->List V->Option V)(cb2:Nat->List V->Heap->Nat->Option (V×Heap×Nat))(t:TT)(mt:List MT)(N fr:Nat)(ops:Array Oper)(o:Oper)(e:Env)(hp:Heap)(nx:Nat):Option (OD×Nat):=
 match rdO2 ops o e with
 |none=>none
 |some re=>(match wt ops re o.guard with
  |none=>none
  |some b=>(match b with
   |false=>(match o.dst with|some d=>(match Nat.blt d N with|true=>some (⟨re,[],[(d,.con undef)],[]⟩,fr)|false=>none)|none=>none)
   |true=>(match hrL re hp (hrO o.op) [] with
    |none=>none
    |some rh=>(match o.dst with
     |some d=>(match Nat.blt d N with
      |false=>none
      |true=>(match val t re rh o.op with
       |some v=>some (⟨re,rh,[(d,v)],[]⟩,fr)
       |none=>(match alY t re fr o.op with
        |some (v,ob)=>(match Nat.blt fr nx,hgC hp fr with
         |true,some .res=>some (⟨re,(fr,.res)::rh,[(d,v)],[(fr,ob)]⟩,fr+1)
         |_,_=>none)
        |none=>(match clX t re o.op with
         |some (f,avs)=>(match allNB immB avs,cb f avs with
          |true,some v=>some (⟨re,rh,[(d,v)],[]⟩,fr)
          |_,_=>(match clB cb2 f avs hp fr nx with
           |some (dv,rh2,u,fr')=>some (⟨re,rh2,[(d,dv)],u⟩,fr')
           |none=>none))
         |none=>(match oneY t mt re rh nx o.op with
          |some (v,[],0)=>some (⟨re,rh,[(d,v)],[]⟩,fr)
          |_=>(match o.guard,apY t d re rh fr o.op with
           |none,some (ue,uh,q)=>(match Nat.ble (fr+q) nx&&resL (seqF fr q) hp with
            |true=>some (⟨re,resD (seqF fr q)++rh,ue,uh⟩,fr+q)
            |false=>none)
           |_,_=>none))))))
     |none=>(match wrY t mt re rh o.op with|some (id,ob)=>some (⟨re,rh,[],[(id,ob)]⟩,fr)|none=>none)))))
theorem od2_ok{cb:Nat->List V->Option V}{cb2:Nat->List V->Heap->Nat->Option (V×Heap×Nat)}(hcb2:∀f avs hp k v hp' k',cb2 f avs hp k=some (v,hp',k')->fnOk K.P f=true/\MutG K.gl K.P f avs k hp v k' hp')(hcb:∀f avs v,cb f avs=some v->fnOk K.P f=true/\PureG K.gl K.P f avs v)(ht:TTok K.P t){mt:List MT}(hmt:MTok K.P mt){o:Oper}{D:OD}{e:Env}{hp:Heap}{fr fr' nx:Nat}(hpin:K.pins<=fr)
  (h:od2 cb cb2 t mt K.N fr ops o e hp nx=some (D,fr')):OStep K nx ops o D/\RdE e D.re/\RdH hp D.rh/\fr<=fr':=by
 unfold od2 at h
 split at h
 ·simp at h
 ·rename_i re hre
  have hre':=rdO2_ok hre
  split at h
  ·simp at h
  ·rename_i b hw
   split at h
   ·split at h
    ·rename_i d hd
     split at h
     ·rename_i hN
      simp at h;obtain⟨rfl,rfl⟩:=h
      exact⟨fun S2 hn h1 h2=>aops_skip (wt_ok (ag_rdE h1) hw) hd hN (aops_nil ⟨rfl,rfl⟩),hre',trivial,ab8 _⟩
     grind
    grind
   ·split at h
    ·simp at h
    ·rename_i rh hrh
     have hrh':=hrL_ok (l:=[]) trivial hrh
     obtain⟨dst,op,ty,pos,after,g⟩:=o
     cases dst with
     |some d=>
      simp only at h
      split at h
      ·simp at h
      ·rename_i hN
       split at h
       ·rename_i v hv
        simp at h;obtain⟨rfl,rfl⟩:=h
        exact⟨fun S2 hn h1 h2=>val_ok ht (ag_rdE h1) (ag_rdH h2) hv (wt_ok (ag_rdE h1) hw) hN (aops_nil ⟨rfl,rfl⟩),hre',hrh',ab8 _⟩
       ·split at h
        ·rename_i v ob hv
         split at h
         ·rename_i hb hres
          simp at h;obtain⟨rfl,rfl⟩:=h
          exact⟨fun S2 hn h1 h2=>alY_ok ht (ag_rdE h1) hv (by simp_all) hn h2.1 (wt_ok (ag_rdE h1) hw) hN (aops_nil ⟨rfl,rfl⟩),hre',⟨hgC_ok hres,hrh'⟩,ah8 _⟩
         grind
        ·split at h
         ·rename_i f avs hc
          split at h
          ·rename_i v hai hcv
           simp at h;obtain⟨rfl,rfl⟩:=h
           obtain⟨q1,q2⟩:=hcb _ _ _ hcv
           refine⟨fun S2 hn h1 h2=>?_,hre',hrh',ab8 _⟩
           refine aops_calls (o:=⟨some d,op,ty,pos,after,g⟩) (wt_ok (ag_rdE h1) hw) rfl hN (fun m β w a r=>?_) q2 (aops_nil ⟨rfl,rfl⟩)
           obtain⟨vs,e1,e2⟩:=clX_run0 ht (o:=⟨some d,op,ty,pos,after,g⟩) (ag_rdE h1) hc q1 m β w a r
           exact⟨vs,e1,⟨e2.len,fun i c v a b=>immN_ok (allN_ok hai c (ar8 a)) (e2.at' i c v a b)⟩⟩
          ·split at h
           ·rename_i dv rh2 u fr2 hB
            simp only[aq8,Prod.mk.injEq] at h;obtain⟨rfl,rfl⟩:=h
            have p:=fun(Q:Post)=>clB_ok (Q:=Q) (ops:=ops) (rest:=[]) hcb2 hB hpin ht (o:=⟨some d,op,ty,pos,after,g⟩) hc rfl hN
            exact⟨fun S2 hn h1 h2=>(p _).2.2 S2 hn (ag_rdE h1) h2 (wt_ok (ag_rdE h1) hw) (aops_nil ⟨rfl,rfl⟩),hre',(p (fun _ _=>True)).1,(p (fun _ _=>True)).2.1⟩
           grind
         ·split at h
          ·rename_i v hv
           simp at h;obtain⟨rfl,rfl⟩:=h
           exact⟨fun S2 hn h1 h2=>oneY_ok ht hmt (ag_rdE h1) (ag_rdH h2) hn hv (wt_ok (ag_rdE h1) hw) hN (aops_nil ⟨rfl,rfl⟩),hre',hrh',ab8 _⟩
          ·split at h
           ·rename_i ue uh q hap
            split at h
            ·rename_i hb
             simp only[al9] at hb
             simp only[aq8,Prod.mk.injEq] at h;obtain⟨rfl,rfl⟩:=h
             refine⟨fun S2 hn h1 h2=>?_,hre',rdH_app.2 ⟨resL_rd hb.2,hrh'⟩,Nat.le_add_right _ _⟩
             obtain⟨y1,y2⟩:=rdH_app.1 h2
             exact apY_ok ht (ag_rdE h1) (ag_rdH y2) hn hap (fun i h1 h2=>⟨resD_at y1 i (seqF_mem.2 ⟨h1,h2⟩),bz9 h2 (ar9 hb.1)⟩) hpin hN (aops_nil ⟨rfl,rfl⟩)
            grind
           grind
     |none=>
      simp only at h
      split at h
      ·rename_i id ob hv
       simp at h;obtain⟨rfl,rfl⟩:=h
       exact⟨fun S2 hn h1 h2=>wrY_ok ht hmt (ag_rdE h1) (ag_rdH h2) hv (wt_ok (ag_rdE h1) hw) (aops_nil ⟨rfl,rfl⟩),hre',hrh',ab8 _⟩
      grind
theorem get_appc{e e':Env}(h:∀t,get e t=get e' t):∀(u:Env) (t:Nat),get (u++e) t=get (u++e') t
 |[],t=>h t
 |(i,o)::u,t=>by
  show get ((i,o)::(u++e)) t=get ((i,o)::(u++e')) t
  rw[get_put,get_put,get_appc h u]
theorem hget_appc{e e':Heap}(h:∀t,hget e t=hget e' t):∀(u:Heap) (t:Nat),hget (u++e) t=hget (u++e') t
 |[],t=>h t
 |(i,o)::u,t=>by
  show hget ((i,o)::(u++e)) t=hget ((i,o)::(u++e')) t
  rw[hget_put,hget_put,hget_appc h u]
def drR(cb:Nat->List V->Option V)(cb2:Nat->List V->Heap->Nat->Option (V×Heap×Nat))(t:TT)(mt:List MT)(N:Nat)(ops:Array Oper):List Oper->Nat->Env->Heap->Nat->Option (List OD×Env×Heap)
 |[],_,e,hp,_=>some ([],e,hp)
 |o::l,fr,e,hp,nx=>(match od2 cb cb2 t mt N fr ops o e hp nx with
  |some (D,fr')=>(match drR cb cb2 t mt N ops l fr' (putsE D.ue e) (putsH D.uh hp) nx with|some (ds,e',hp')=>some (D::ds,e',hp')|none=>none)
  |none=>none)
theorem drR_ok{cb:Nat->List V->Option V}{cb2:Nat->List V->Heap->Nat->Option (V×Heap×Nat)}(hcb2:∀f avs hp k v hp' k',cb2 f avs hp k=some (v,hp',k')->fnOk K.P f=true/\MutG K.gl K.P f avs k hp v k' hp')(hcb:∀f avs v,cb f avs=some v->fnOk K.P f=true/\PureG K.gl K.P f avs v)(ht:TTok K.P t){mt:List MT}(hmt:MTok K.P mt){nx:Nat} :
  ∀{l:List Oper} {fr:Nat} {e e':Env} {hp hp':Heap} {ds:List OD} {S:St},K.pins<=fr->drR cb cb2 t mt K.N ops l fr e hp nx=some (ds,e',hp')->S.nx=nx->(∀t,get S.env t=get e t)->(∀t,hget S.hp t=hget hp t)->
  LexOk S ds/\OSteps K nx ops l ds/\(∀t,get (lexEnd S ds).env t=get e' t)/\(∀t,hget (lexEnd S ds).hp t=hget hp' t)/\(lexEnd S ds).nx=nx
 |[],fr,e,e',hp,hp',ds,S,hpin,h,hn,h1,h2=>by
  simp[drR] at h;obtain⟨rfl,rfl,rfl⟩:=h
  exact⟨trivial,.nil,h1,h2,hn⟩
 |o::l,fr,e,e',hp,hp',ds,S,hpin,h,hn,h1,h2=>by
  simp only[drR] at h
  split at h
  ·rename_i D fr' hD
   obtain⟨a1,a2,a3,a4⟩:=od2_ok hcb2 hcb ht hmt hpin hD
   split at h
   ·rename_i ds' e2 hp2 hR
    simp at h;obtain⟨rfl,rfl,rfl⟩:=h
    have:=drR_ok hcb2 hcb ht hmt (S:=S.upd D) (bk8 hpin a4) hR hn (fun t=>(get_appc h1 _ t).trans (get_putsE _ _ t).symm) (fun t=>(hget_appc h2 _ t).trans (hget_putsH _ _ t).symm)
    exact⟨⟨RdE.congr (fun t _=>(h1 t).symm) a2,RdH.congr (fun t _=>(h2 t).symm) a3,this.1⟩,.cons a1 this.2.1,this.2.2⟩
   ·simp at h
  ·simp at h
def resH(nx:Nat):Nat->Heap->Heap
 |0,hp=>hp
 |n+1,hp=>(nx+n,.res)::resH nx n hp
theorem awp_res{c:Code}{e:Env}{hp:Heap}{nx:Nat}:∀(n:Nat),AWP K c Q ⟨e,resH nx n hp,nx+n⟩->AWP K c Q ⟨e,hp,nx⟩
 |0,h=>h
 |n+1,h=>awp_res n (awp_ghost ghost_res h)
theorem awp_pins{c:Code}(h:K.pins<=S.nx->AWP K c Q S):AWP K c Q S:=by
 intro m β w a r
 refine h ?_ m β w a r
 cases hp:K.pins with
 |zero=>grind
 |succ q=>have:=(r.pin q (by omega)).1;omega
theorem awp_dr{cb:Nat->List V->Option V}{cb2:Nat->List V->Heap->Nat->Option (V×Heap×Nat)}(hcb2:∀f avs hp k v hp' k',cb2 f avs hp k=some (v,hp',k')->fnOk K.P f=true/\MutG K.gl K.P f avs k hp v k' hp')(hcb:∀f avs v,cb f avs=some v->fnOk K.P f=true/\PureG K.gl K.P f avs v)(ht:TTok K.P t){mt:List MT}(hmt:MTok K.P mt)(hm:K.P.follows .mixedOrders=true){rid n nx:Nat}{e e':Env}{hp hp':Heap}{ds:List OD}
  (h:drR cb cb2 t mt K.N ops ops.toList nx e (resH nx n hp) (nx+n)=some (ds,e',hp')) (hok:anyOk ops.toList ds=true) (k:∀S1,Ghost K S1 ⟨e',hp',nx+n⟩->Q .normal S1):AWP K (.region rid ops true) Q ⟨e,hp,nx⟩:=by
 refine awp_pins (fun hpin=>awp_res n ?_)
 obtain⟨l⟩:=ops
 obtain⟨a1,a2,a3,a4,a5⟩:=drR_ok hcb2 hcb ht hmt (S:=⟨e,resH nx n hp,nx+n⟩) hpin h rfl (fun _=>rfl) (fun _=>rfl)
 exact awp_any ds hm a1 hok a2 (k _ (fun m β _ _ r=>⟨m,β,r.congr (fun t=>(a3 t).symm) (fun t=>(a4 t).symm) a5.symm⟩))
end
section
variable{K:Ctx}{Q:Post}{S S':St}{t:TT}
def rvT:ResultVar->Nat
 | .tmp x=>x
 | .cell x _=>x
def rvs(e:Env):List ResultVar->Option (List (Nat×V))
 |[]=>some []
 |r::l=>(match gtC e (rvT r) with|some v=>(match rvs e l with|some q=>some ((rvT r,v)::q)|none=>none)|none=>none)
def mpE(f:Nat->Option Nat):List (Nat×V)->Option Env
 |[]=>some []
 |(x,v)::l=>(match mpV f 12 v with|some y=>(match mpE f l with|some q=>some ((x,y)::q)|none=>none)|none=>none)
def idsPin(hp:Heap):Nat->List Nat
 |0=>[]
 |q+1=>idsO (hget hp q)++idsPin hp q
def idsE:List (Nat×V)->List Nat
 |[]=>[]
 |p::l=>idsV 12 p.2++idsE l
def cpc(k:Nat)(rs:List ResultVar):St->Option St
 |⟨e,hp,nx⟩=>(match rvs e rs with
  |some l=>(match reachC hp 4000 (idsPin hp k++idsE l) (seqF 0 k) with
   |some R=>(match mpE (idxJ R 0) l with
    |some e2=>(match inH (idxJ R 0) hp 0 R with
     |some (h2,_)=>(match nodup R&&pinsB R k with|true=>some ⟨e2,h2,R.length⟩|false=>none)
     |none=>none)
    |none=>none)
   |none=>none)
  |none=>none)
theorem viaRen{R:List Nat}:ViaY (Ren R.length (sg R)) (idxJ R 0):=by
 rintro m β m' β' ⟨rfl,h⟩
 refine⟨rfl,fun i j hij=>?_⟩
 obtain⟨q,rfl,hq⟩:=idxJ_ok hij<;>simp_all[lgt_sg]
theorem mpE_sub{Y:Hy}{f:Nat->Option Nat}(hY:ViaY Y f){e:Env}{rs:List ResultVar}:∀{l:List (Nat×V)} {e2:Env},(∀p,p∈l->get e p.1=p.2)->mpE f l=some e2->EnvSub Y e e2
 |[],e2,_,h=>by simp[mpE] at h;subst h;exact .nil
 |(x,v)::l,e2,hl,h=>by
  simp only[mpE] at h
  split at h
  ·rename_i y hy
   split at h
   ·rename_i q hq
    simp at h;subst h
    exact .cons (by grind [List.mem_cons_self,mpV_sub]) (mpE_sub (rs:=rs) hY (fun p hp=>hl p (bm8 _ hp)) hq)
   grind
  grind
theorem rvs_at{e:Env}:∀{rs:List ResultVar} {l:List (Nat×V)},rvs e rs=some l->∀p,p∈l->get e p.1=p.2
 |[],l,h,p,hp=>by simp_all[rvs]
 |r::rs,l,h,p,hp=>by
  simp only[rvs] at h
  split at h
  ·rename_i v hv
   split at h
   ·rename_i q hq
    simp at h;subst h
    rcases am8.1 hp with rfl|hp
    ·exact gtC_ok hv
    ·exact rvs_at hq p hp
   ·simp at h
  ·simp at h
theorem cpc_ok{k:Nat}{rs:List ResultVar}{S S2:St}(h:cpc k rs S=some S2)(hk:K.pins=k):Ghost K S S2:=by
 obtain⟨e,hp,nx⟩:=S
 simp only[cpc] at h
 split at h
 ·rename_i l hl
  split at h
  ·rename_i R hR
   split at h
   ·rename_i e2 he
    split at h
    ·rename_i h2 r hin
     split at h
     ·rename_i hb
      simp only[al9] at hb
      simp only[aq8] at h;subst h
      exact ghost_ren (S:=⟨e,hp,nx⟩) R.length (sg R) e2 h2 (nodup_ok hb.1) (mpE_sub (rs:=rs) viaRen (rvs_at hl) he).get (HpSub.get (inH_ok (R0:=R) viaRen (fun q i h=>by grind) hin (inH_rd hin))) (by simp_all[pinsB_ok])
     grind
    grind
   grind
  grind
 grind
def fin(k:Nat)(rs:List ResultVar)(S:St):St:=match cpc k rs S with|some S2=>S2|none=>S
theorem fin_ok{k:Nat}{rs:List ResultVar}{S:St}(hk:K.pins=k):Ghost K S (fin k rs S):=by
 unfold fin
 split
 ·grind [cpc_ok]
 ·exact fun m β _ _ r=>⟨m,β,r⟩
def finO(k:Nat)(rs:List ResultVar)(o:Option St):Option St:=match o with|some S=>some (fin k rs S)|none=>none
theorem finO_some{k:Nat}{rs:List ResultVar}{o:Option St}{S2:St}(h:finO k rs o=some S2):∃S,o=some S/\fin k rs S=S2:=by
 unfold finO at h
 grind
end
section
variable{K:Ctx}{Q:Post}{S S':St}{ops:Array Oper}{rest:List Oper}{t:TT}
theorem aops_idcall{o:Oper}{d:Nat}{f:FuncId}{avs:List V}{k':Nat}{hp':Heap}{dv:V}(hw:Wants ops S o true)(hd:o.dst=some d)(hN:Nat.blt d K.N=true)
  (hrun:∀m β w a,Rel K m β w a S->∃vs:Array Value,(execOp a.eval o).run K.P w=.ok (.enter f vs) w/\VRels m β avs vs)
  (hc:MutG K.gl K.P f avs S.nx S.hp dv k' hp') (kk:AOps K ops rest Q ⟨(d,dv)::S.env,hp',k'⟩):AOps K ops (o::rest) Q S:=by
 intro m β w a r
 unfold wpListIn
 rw[if_pos (hw.at r)]
 obtain⟨vs,h1,h2⟩:=hrun m β w a r
 refine op_in (.inr (nd_run h1 (fun d e=>by cases e))) ?_
 unfold Oper.wp
 rw[h1]
 refine(hc m β w vs r.imm (K.glok.mono r.ext) h2 r.own (fun id b cap hl hb=>(r.priv id b cap hl hb).1) r.inj (fun id x hl hx=>let q:=r.hid id x hl hx;⟨q.lt,q.m,q.ne,q.un⟩) r.nx).mono ?_
 rintro e w' ⟨v,m',β',rfl,hv,g⟩
 simp only[hd]
 have hle:S.nx<=k':=by
  cases hn:S.nx with
  |zero=>grind
  |succ q=>have:=(g.pin q (by omega)).1;omega
 have hβle:β.le β':=by
  intro id l hl
  by_cases h:id<S.nx
  ·rw[(g.pin id h).2];exact hl
  ·rw[r.nx id (by omega)] at hl;simp at hl
 have hold:∀b,b<K.w0.heap.size->K.old b->b<w.heap.size/\Foreign S.hp β b:=fun b hb ho=>
  ⟨bz9 hb r.size,fun i hl=>⟨fun c hb'=>(r.priv _ _ _ hl hb').2 hb ho,fun hx=>(r.hid _ _ hl hx).old hb ho⟩⟩
 have r2:Rel K m' β' w' a ⟨S.env,hp',k'⟩:=by
  constructor
  ·exact g.imm
  ·exact Mem.le_trans r.ext g.le
  ·intro b hb ho
   obtain⟨q1,q2⟩:=hold b hb ho
   rw[(g.old b q1 q2).1]
   exact r.mold b hb ho
  ·intro b hb ho
   obtain⟨q1,q2⟩:=hold b hb ho
   rw[(g.old b q1 q2).2]
   exact r.frame b hb ho
  ·exact bk8 r.size g.size
  ·exact r.same.trans g.same
  ·exact r.tn
  ·exact r.df.mono g.le
  ·exact fun t=>(r.env t).mono g.le hβle
  ·exact g.own
  ·intro id b cap hl hb
   obtain⟨q1,q2⟩:=g.priv id b cap hl hb<;>grind
  ·exact g.inj
  ·intro id x hl hx
   obtain⟨q1,q2,q3,q4,q5⟩:=g.hid id x hl hx
   exact⟨q1,q2,fun hb0 ho=>q3 (hold x hb0 ho).1 (hold x hb0 ho).2,q4,q5⟩
  ·exact g.nx
  ·intro q hq
   obtain⟨p1,p2⟩:=r.pin q hq
   have:=g.pin q p1
   grind
 exact kk m' β' w' _ (r2.put hN hv)
def rsvM(t:TT)(e:Env)(hp:Heap):ResultVar->Option V
 | .tmp x=>gtC e x
 | .cell x T=>(match gtC e x with
  |some (.ptr id k i o)=>(match hgC hp id with
   |some (.arr _ k2 rows)=>(match Nat.beq k k2 with|true=>(match lgt rows i with|some row=>ldV t T row o|none=>none)|false=>none)
   |_=>none)
  |_=>none)
theorem rsvM_ok(ht:TTok K.P t){rv:ResultVar}{v:V}(h:rsvM t S.env S.hp rv=some v):ResOneM K.P S rv v:=by
 cases rv with
 |tmp x=>exact .tmp (gtC_ok h)
 |cell x T=>
  simp only[rsvM] at h
  split at h
  ·rename_i id k i o hx
   split at h
   ·rename_i k2 rows ho
    split at h
    ·rename_i hk
     have hk:=bw8 hk
     subst hk
     split at h
     ·rename_i row hr
      cases hn:ask t T TF.qA with
      |some n=>
       obtain⟨cs,rfl,hc,hd⟩:=ldV_agg hn h
       exact .agg (askA ht hn) (gtC_ok hx) (hgC_ok ho) (lgt_ok hr) (cut_ok hc).1 (cut_ok hc).2 hd
      |none=>
       obtain⟨hq,hc,hd⟩:=ldV_cell hn h
       exact .cell (askC ht hq) (gtC_ok hx) (hgC_ok ho) (lgt_ok hr) (lgt_ok hc) hd
     grind
    grind
   grind
  grind
def rsL(t:TT)(e:Env)(hp:Heap):List ResultVar->Option (List V)
 |[]=>some []
 |r::l=>(match rsvM t e hp r with|some v=>(match rsL t e hp l with|some q=>some (v::q)|none=>none)|none=>none)
theorem rsL_ok(ht:TTok K.P t):∀{l:List ResultVar} {ds:List V},rsL t S.env S.hp l=some ds->ResL K.P S l ds
 |[],ds,h=>by simp[rsL] at h;subst h;exact .nil
 |r::l,ds,h=>by
  simp only[rsL] at h
  split at h
  ·rename_i v hv
   split at h
   ·rename_i q hq;simp at h;subst h;exact .cons (rsvM_ok ht hv) (rsL_ok ht hq)
   ·simp at h
  ·simp at h
abbrev FT:=List (Nat×Func)
def FTok(P:Program)(ft:FT):Prop:=∀p,p∈ft->P.funcs[p.1]? = some p.2/\fnOk P p.1=true
def mkFT(P:Program)(l:List Nat):FT:=l.filterMap fun f=>match P.funcs[f]? with|some g=>some (f,g)|none=>none
theorem ft_ok{P:Program}{ft:FT}(l:List Nat)(h:ft=mkFT P l)(hB:l.all (fnOk P)=true):FTok P ft:=fun p hp=>by
 rw[h] at hp
 obtain⟨f,hf,e⟩:=List.mem_filterMap.1 hp<;>grind
abbrev XT:=List (Nat×(List V->Option V))
def XTok(gl:Gl)(P:Program)(xt:XT):Prop:=∀p,p∈xt->fnOk P p.1=true/\∀avs v,p.2 avs=some v->PureG gl P p.1 avs v
def opOf(t:TT)(N:Nat)(ops:Array Oper)(e:Env)(o:Oper):Option (Nat×Nat×List V):=
 match dsC N ops e o with
 |some d=>(match clX t e o.op with|some (f,avs)=>some (d,f,avs)|none=>none)
 |none=>none
def nAl(t:TT):List Oper->Nat
 |[]=>0
 |o::l=>(match o.op with | .alloc _=>nAl t l+1 | .box _ _=>nAl t l+1 | .makeMap _ _=>nAl t l+1 | .buildSlice _ _ _=>nAl t l+1 | .makeSlice _ _ _=>nAl t l+1 | .call c=>(match c.callee with | .value x=>(match x with | .func f=>(match ask t f TF.qR with|some n=>nAl t l+n|none=>nAl t l+12)|_=>nAl t l+12) | .invoke _ _=>nAl t l+12 | .builtin .append=>nAl t l+2|_=>nAl t l)|_=>nAl t l)
def evR(ft:FT)(xt:XT)(t:TT)(mt:List MT):Nat->Nat->List It->St->Option St
 |0,_,_,_=>none
 |_+1,_,[],S=>some S
 |n+1,N,x::s,⟨e,hp,nx⟩=>
  match x with
  | .c .ret=>some ⟨e,hp,nx⟩
  | .c (.loop c)=>evR ft xt t mt n N (.c c::.c (.loop c)::s) ⟨e,hp,nx⟩
  | .c (.region _ ops true)=>
   (match drR (fun f avs=>match lk xt f with
     |some g=>g avs
     |none=>(match lk ft f with
      |some fn=>(match fn.body with
       |some c=>(match Nat.ble avs.length fn.ntmps,finO 0 fn.results.toList (evR ft xt t mt n fn.ntmps [.c c] ⟨argEnv 0 avs,[],0⟩) with
        |true,some ⟨e1,hp1,_⟩=>(match rsL t e1 hp1 fn.results.toList with
         |some ds=>(match immB (resV ds) with|true=>some (resV ds)|false=>none)
         |none=>none)
        |_,_=>none)
       |none=>none)
      |none=>none)) (fun f avs hp k=>match lk ft f with
      |some fn=>(match fn.body with
       |some c=>(match Nat.ble avs.length fn.ntmps,finO k fn.results.toList (evR ft xt t mt n fn.ntmps [.c c] ⟨argEnv 0 avs,hp,k⟩) with
        |true,some ⟨e1,hp1,k1⟩=>(match rsL t e1 hp1 fn.results.toList with
         |some ds=>some (resV ds,hp1,k1)
         |none=>none)
        |_,_=>none)
       |none=>none)
      |none=>none) t mt N ops ops.toList nx e (resH nx (nAl t ops.toList) hp) (nx+nAl t ops.toList) with
   |some (ds,e',hp')=>(match anyOk ops.toList ds with|true=>evR ft xt t mt n N s ⟨e',dropR nx (nAl t ops.toList) hp',nx+nAl t ops.toList⟩|false=>none)
   |none=>none)
  | .o ops (o::l)=>
   (match one t N ops o ⟨e,hp,nx⟩ with
   |some ⟨e',hp',nx'⟩=>evR ft xt t mt n N (.o ops l::s) ⟨tidyE e',tidyH hp',nx'⟩
   |none=>(match opOf t N ops e o with
    |some (d,f,avs)=>(match lk xt f with
     |some g=>(match g avs with|some v=>(match allNB immB avs with|true=>evR ft xt t mt n N (.o ops l::s) ⟨putE d v e,hp,nx⟩|false=>none)|none=>none)
     |none=>(match lk ft f with
      |some fn=>(match fn.body with
       |some c=>(match Nat.ble avs.length fn.ntmps,finO nx fn.results.toList (evR ft xt t mt n fn.ntmps [.c c] ⟨argEnv 0 avs,hp,nx⟩) with
        |true,some ⟨e1,hp1,nx1⟩=>(match rsL t e1 hp1 fn.results.toList with
         |some ds=>evR ft xt t mt n N (.o ops l::s) ⟨putE d (resV ds) e,hp1,nx1⟩
         |none=>none)
        |_,_=>none)
       |none=>none)
      |none=>none))
    |none=>(match dsC N ops e o with
     |some d=>(match oneY t mt e hp nx o.op with|some (v,u,q)=>evR ft xt t mt n N (.o ops l::s) ⟨putE d v e,putsH u hp,nx+q⟩|none=>(match o.guard,apN t d e hp nx o.op with|none,some (ue,uh)=>evR ft xt t mt n N (.o ops l::s) ⟨putsE ue e,putsH uh hp,nx+2⟩|_,_=>none))
     |none=>(match o.dst,wt ops e o.guard with
      |none,some true=>(match wrY t mt e hp o.op with|some (id,ob)=>evR ft xt t mt n N (.o ops l::s) ⟨e,putH id ob hp,nx⟩|none=>none)
      |_,_=>none))))
  |x=>(match stp t N (x::s) ⟨e,hp,nx⟩ with|some (s',S')=>evR ft xt t mt n N s' S'|none=>none)
theorem ghost_putE{d:Nat}{v:V}{e:Env}{hp:Heap}{nx:Nat}:Ghost K ⟨(d,v)::e,hp,nx⟩ ⟨putE d v e,hp,nx⟩:=fun m β _ _ r=>⟨m,β,r.congr (get_putE d v e) (fun _=>rfl) rfl⟩
theorem ghost_putH{id:Nat}{ob:Ob}{e:Env}{hp:Heap}{nx:Nat}:Ghost K ⟨e,(id,ob)::hp,nx⟩ ⟨e,putH id ob hp,nx⟩:=fun m β _ _ r=>⟨m,β,r.congr (fun _=>rfl) (hget_putH id ob hp) rfl⟩
theorem ghost_puts{d:Nat}{v:V}{e:Env}{u hp:Heap}{nx:Nat}:Ghost K ⟨(d,v)::e,u++hp,nx⟩ ⟨putE d v e,putsH u hp,nx⟩:=fun m β _ _ r=>⟨m,β,r.congr (get_putE d v e) (hget_putsH u hp) rfl⟩
theorem ghost_puts2{ue e:Env}{u hp:Heap}{nx:Nat}:Ghost K ⟨ue++e,u++hp,nx⟩ ⟨putsE ue e,putsH u hp,nx⟩:=fun m β _ _ r=>⟨m,β,r.congr (get_putsE ue e) (hget_putsH u hp) rfl⟩
theorem ghost_trans{S1 S2 S3:St}(h:Ghost K S1 S2)(h':Ghost K S2 S3):Ghost K S1 S3:=Ghost.trans h h'
theorem ghost_refl:Ghost K S S:=fun m β _ _ r=>⟨m,β,r⟩
theorem wg_b{i:Nat}{s:List It}(h:WG K Q s S):WG K Q (.b i::s) S:=h
theorem evR_ok{gl:Gl}{P:Program}{ft:FT}{xt:XT}{mt:List MT}(hft:FTok P ft)(hxt:XTok gl P xt)(ht:TTok P t)(hmt:MTok P mt)(hm:P.follows .mixedOrders=true):
  ∀(n:Nat) (K:Ctx),K.P=P->K.gl=gl->∀(s:List It) (S S':St) (Q:Post),evR ft xt t mt n K.N s S=some S'->(∀S0,Ghost K S0 S'->∀e,(e=.ret\/e=.normal)->Q e S0)->∀S0,Ghost K S0 S->WG K Q s S0:=by
 intro n
 induction n with
 |zero=>simp_all[evR]
 |succ n ih=>
  -- a call by its text
  have call:∀(f:Nat) (fn:Func) (c:Code) (avs:List V) (hp hp1:Heap) (nx nx1:Nat) (e1:Env) (ds:List V),P.funcs[f]? = some fn->fn.body=some c->Nat.ble avs.length fn.ntmps=true->
    finO nx fn.results.toList (evR ft xt t mt n fn.ntmps [.c c] ⟨argEnv 0 avs,hp,nx⟩)=some ⟨e1,hp1,nx1⟩->rsL t e1 hp1 fn.results.toList=some ds->MutG gl P f avs nx hp (resV ds) nx1 hp1:=by
   intro f fn c avs hp hp1 nx nx1 e1 ds q1 hb hle hrun hds
   refine mut_enter (l:=fn.results.toList) q1 hb rfl (by simp) hle _ rfl (fun w0 m0 β0 hg=>?_)
   obtain⟨S9,hr9,hf9⟩:=finO_some hrun
   refine ih (mctx gl P fn.ntmps nx hp w0 m0 β0 hg) rfl rfl [.c c] _ _ _ hr9 ?_ _ ghost_refl
   exact fun S0 hg e he=>⟨he,e1,Ghost.trans hg (by grind [fin_ok]),rsL_ok (S:=⟨e1,hp1,nx1⟩) ht hds⟩
  intro K hP hgl s S S' Q h hQ S0 hg0
  cases s with
  |nil=>simp only[evR,aq8] at h;subst h;exact hQ _ hg0 _ (.inr rfl)
  |cons x s=>
   obtain⟨e,hp,nx⟩:=S
   have ha:Ag e ⟨e,hp,nx⟩:=agE (S:=⟨e,hp,nx⟩)
   have htK:TTok K.P t:=by rw[hP];exact ht
   have hmK:MTok K.P mt:=by rw[hP];exact hmt
   simp only[evR] at h
   split at h
   ·simp only[aq8] at h;subst h;exact awp_ret (post_ret (hQ _ hg0 _ (.inl rfl)))
   ·exact awp_ghost hg0 (awp_loop (ih K hP hgl _ _ _ _ h hQ _ ghost_refl))
   ·split at h
    ·rename_i ds e' hp' hdr
     split at h
     ·rename_i hok
      refine awp_ghost hg0 (awp_dr ?_ ?_ htK hmK (by grind) hdr hok (fun S1 hg1=>ih K hP hgl _ _ _ _ h hQ _ (ghost_trans hg1 (ghost_less (dropR_at _ _ _)))))
      ·intro f avs hp k v hp' k' hv
       split at hv
       ·rename_i fn hfn
        obtain⟨q1,q2⟩:=hft _ (lk_mem hfn)<;>grind
       grind
      intro f avs v hv
      split at hv
      ·rename_i g hg
       obtain⟨q1,q2⟩:=hxt _ (lk_mem hg)<;>simp_all
      ·split at hv
       ·rename_i fn hfn
        obtain⟨q1,q2⟩:=hft _ (lk_mem hfn)<;>grind [mut_pure]
       grind
     grind
    grind
   ·rename_i ops o l
    refine aops_ghost hg0 ?_
    split at h
    ·rename_i e' hp' nx' h1
     exact one_ok htK h1 (ih K hP hgl _ _ _ _ h hQ _ ghost_tidy)
    ·split at h
     ·rename_i d f avs hop
      unfold opOf at hop
      split at hop
      ·rename_i d' hd
       split at hop
       ·rename_i hc
        simp only[aq8,Prod.mk.injEq] at hop
        obtain⟨rfl,rfl,rfl⟩:=hop
        obtain⟨w1,w2,w3⟩:=dsC_ok ha hd
        split at h
        ·rename_i g hg
         split at h
         ·rename_i v hv
          obtain⟨q1,q2⟩:=hxt _ (lk_mem hg)
          split at h
          ·rename_i him
           exact aops_calls w1 w2 w3 (fun m β w a r=>by
            obtain⟨vs,e1,e2⟩:=clX_run0 htK ha hc (by grind) m β w a r
            exact⟨vs,e1,⟨e2.len,fun i c v a b=>immN_ok (allN_ok him c (ar8 a)) (e2.at' i c v a b)⟩⟩) (by grind) (ih K hP hgl _ _ _ _ h hQ _ ghost_putE)
          grind
         grind
        ·split at h
         ·rename_i fn hfn
          obtain⟨q1,q2⟩:=hft _ (lk_mem hfn)
          split at h
          ·rename_i c hb
           split at h
           ·rename_i e1 hp1 nx1 hle hrun
            split at h
            ·rename_i ds hds
             exact aops_idcall w1 w2 w3 (clX_run0 htK ha hc (by grind)) (by grind) (ih K hP hgl _ _ _ _ h hQ _ ghost_putE)
            grind
           grind
          grind
         grind
       grind
      grind
     ·split at h
      ·rename_i d hd
       obtain⟨w1,w2,w3⟩:=dsC_ok ha hd
       split at h
       ·rename_i v u q h1
        obtain⟨dst,op,ty,pos,after,g⟩:=o
        simp only at w2
        subst w2
        exact oneY_ok htK hmK ha (agH (S:=⟨e,hp,nx⟩)) rfl h1 w1 w3 (ih K hP hgl _ _ _ _ h hQ _ ghost_puts)
       ·split at h
        ·rename_i hgd h1
         obtain⟨dst,op,ty,pos,after,g⟩:=o
         simp only at w2
         subst w2
         exact apN_ok htK h1 hgd w3 (ih K hP hgl _ _ _ _ h hQ _ ghost_puts2)
        grind
      ·split at h
       ·rename_i hdst hwt
        have hw:=wt_ok ha hwt
        split at h
        ·rename_i id ob h1
         obtain⟨dst,op,ty,pos,after,g⟩:=o
         simp only at hdst
         subst hdst
         exact wrY_ok htK hmK ha (agH (S:=⟨e,hp,nx⟩)) h1 hw (ih K hP hgl _ _ _ _ h hQ _ ghost_putH)
        grind
       grind
   ·rename_i x4 n1 n2 n3 n4
    split at h
    ·rename_i s' S2 h1
     have k:=stp_ok (Q:=Q) htK h1 (ih K hP hgl _ _ _ _ h hQ _ ghost_refl)
     cases x with
     |c x=>exact awp_ghost hg0 k
     |o ops l=>exact aops_ghost hg0 k
     |b i=>grind [stp,wg_b]
     |j J=>simp[stp] at h1
    grind
def evF(ft:FT)(xt:XT)(t:TT)(mt:List MT)(n f:Nat)(avs:List V):Option V:=
 match lk ft f with
 |some fn=>(match fn.body with
  |some c=>(match Nat.ble avs.length fn.ntmps,evR ft xt t mt n fn.ntmps [.c c] ⟨argEnv 0 avs,[],0⟩ with
   |true,some ⟨e1,hp1,_⟩=>(match rsL t e1 hp1 fn.results.toList with
    |some ds=>(match immB (resV ds) with|true=>some (resV ds)|false=>none)
    |none=>none)
   |_,_=>none)
  |none=>none)
 |none=>none
theorem evF_ok{gl:Gl}{P:Program}{ft:FT}{xt:XT}{mt:List MT}(hft:FTok P ft)(hxt:XTok gl P xt)(ht:TTok P t)(hmt:MTok P mt)(hm:P.follows .mixedOrders=true){n f:Nat}{avs:List V}{v:V}
  (h:evF ft xt t mt n f avs=some v):PureG gl P f avs v:=by
 unfold evF at h
 split at h
 ·rename_i fn hfn
  obtain⟨q1,q2⟩:=hft _ (lk_mem hfn)
  split at h
  ·rename_i c hb
   split at h
   ·rename_i e1 hp1 nx1 hle hrun
    split at h
    ·rename_i ds hds
     split at h
     ·rename_i him
      simp only[aq8] at h;subst h
      refine mut_pure (k':=nx1) (hp':=hp1) ?_ him
      refine mut_enter (l:=fn.results.toList) q1 hb rfl (by simp) hle _ rfl (fun w0 m0 β0 hg=>?_)
      refine evR_ok hft hxt ht hmt hm n (mctx gl P fn.ntmps 0 [] w0 m0 β0 hg) rfl rfl [.c c] _ _ _ hrun ?_ _ ghost_refl
      exact fun S0 hg e he=>⟨he,e1,hg,rsL_ok (S:=⟨e1,hp1,nx1⟩) ht hds⟩
     grind
    grind
   grind
  grind
 grind
end
end Go.Pv
