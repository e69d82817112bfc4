/- Part of the proof. -/
import Derived.Test.YtelmfadihfcgnaaGreatDoorFEX
set_option linter.unusedSimpArgs false
set_option linter.unusedVariables false
namespace Go.Pv
open Go
section
variable{K:dE}{Q:cG}{S S':St}{ops:Array Oper}{rest:List Oper}{t:TT}
def BR(f:V->Option V):List V->Option (List V)
 |[]=>some []
 |x::l=>(match f x with|some y=>(match BR f l with|some r=>some (y::r)|none=>none)|none=>none)
def qD(f:Nat->Option Nat):Nat->V->Option V
 |0,_=>none
 |n+1,v=>(match v with
  | .con v=>some (.con v)
  | .agg cs=>(match BR (qD f n) cs with|some r=>some (.agg r)|none=>none)
  | .tup cs=>(match BR (qD f n) cs with|some r=>some (.tup r)|none=>none)
  | .fn g a b=>(match BR (qD f n) a,BR (qD f n) b with|some r,some q=>some (.fn g r q)|_,_=>none)
  | .ptr id k i o=>(match f id with|some j=>some (.ptr j k i o)|none=>none)
  | .own id l=>(match f id with|some j=>some (.own j l)|none=>none)
  | .map id=>(match f id with|some j=>some (.map j)|none=>none)
  |_=>none)
theorem BQ{f:V->Option V}:∀{l r:List V},BR f l=some r->r.length=l.length/\∀(i:Nat) c c',l[i]? = some c->r[i]? = some c'->f c=some c'
 |[],r,h=>by simp_all[BR]
 |x::l,r,h=>by
  simp only[BR] at h;split at h
  ·rename_i y hy;split at h
   ·rename_i q hq;simp at h;subst h;obtain⟨h1,h2⟩:=BQ hq;refine⟨by simp[h1],fun i c c' a b=>?_⟩;cases i with
    |zero=>simp at a b;subst a;subst b;exact hy
    |succ i=>exact h2 i c c' (by simpa using a) (by simpa using b)
   ·simp at h
  ·simp at h
theorem HB{f:Nat->Option Nat}{m:bZ}{β β':bw}(hf:∀i j,f i=some j->β' j=β i):∀{n:Nat} {v v':V} {x:Value},qD f n v=some v'->bP m β v x->bP m β' v' x
 |0,v,v',x,h=>by simp[qD] at h
 |n+1,v,v',x,h=>by
  intro hv
  have lst:∀{cs r:List V} {vs:Array Value},BR (qD f n) cs=some r->cs.length=vs.size->(∀(i:Nat) c v,cs[i]? = some c->vs[i]? = some v->bP m β c v)->r.length=vs.size/\∀(i:Nat) c v,r[i]? = some c->vs[i]? = some v->bP m β' c v:=by
   intro cs r vs hr hl hh;obtain⟨a1,a2⟩:=BQ hr;refine⟨a1.trans hl,fun i c v hc hx=>?_⟩;have hi:i<cs.length:=by rw[<-a1];exact(ba8.1 hc).1
   exact HB hf (a2 i _ _ (ax9 hi) hc) (hh i _ v (ax9 hi) hx)
  cases v with
  |con c=>simp[qD] at h;subst h;rw[hv.of_con];exact .imm (.con _)
  |agg cs=>
   simp only[qD] at h;split at h
   ·rename_i r hr;simp at h;subst h;obtain⟨vs,rfl,h2,h3⟩:=s5 hv;obtain⟨b1,b2⟩:=lst hr h2 h3;exact .agg b1 b2
   ·simp at h
  |tup cs=>
   simp only[qD] at h;split at h
   ·rename_i r hr;simp at h;subst h;cases hv with
    |imm hv=>cases hv with|tup hl hh=>obtain⟨b1,b2⟩:=lst hr hl (fun i c v a b=>.imm (hh i c v a b));exact .tup b1 b2
    |tup hl hh=>obtain⟨b1,b2⟩:=lst hr hl hh;exact .tup b1 b2
   ·simp at h
  |fn g a b=>
   simp only[qD] at h;split at h
   ·rename_i r q hr hq;simp at h;subst h;cases hv with
    |imm hv=>cases hv with|fn hl hl' h1 h2=>obtain⟨b1,b2⟩:=lst hr hl (fun i c v a b=>.imm (h1 i c v a b));obtain⟨c1,c2⟩:=lst hq hl' (fun i c v a b=>.imm (h2 i c v a b));exact .fn b1 c1 b2 c2
    |fn hl hl' h1 h2=>obtain⟨b1,b2⟩:=lst hr hl h1;obtain⟨c1,c2⟩:=lst hq hl' h2;exact .fn b1 c1 b2 c2
   ·simp at h
  |ptr id k i o=>
   simp only[qD] at h;split at h
   ·rename_i j hj;simp at h;subst h;cases hv with
    |imm hv=>cases hv
    |ptr hb=>exact .ptr (by rw[hf _ _ hj];exact hb)
   ·simp at h
  |own id l=>
   simp only[qD] at h;split at h
   ·rename_i j hj;simp at h;subst h;cases hv with
    |imm hv=>cases hv
    |ownNil hb=>exact .ownNil (by rw[hf _ _ hj];exact hb)
    |own hb=>exact .own (by rw[hf _ _ hj];exact hb)
   ·simp at h
  |map id=>
   simp only[qD] at h;split at h
   ·rename_i j hj;simp at h;subst h;cases hv with
    |imm hv=>cases hv
    |map hb=>exact .map (by rw[hf _ _ hj];exact hb)
   ·simp at h
  |_=>simp[qD] at h
theorem HC{f:Nat->Option Nat}{n:Nat}{v v':V}(h:qD f n v=some v'):v.deep=false:=by
 cases n with
 |zero=>simp[qD] at h
 |succ n=>cases v<;>first|rfl|simp[qD] at h
def Qv(f:Nat->Option Nat):List (List V)->Option (List (List V))
 |[]=>some []
 |x::l=>(match BR (qD f 12) x with|some y=>(match Qv f l with|some r=>some (y::r)|none=>none)|none=>none)
def Qw(f:Nat->Option Nat):List (Value×V)->Option (List (Value×V))
 |[]=>some []
 |(k,x)::l=>(match qD f 12 x with|some y=>(match Qw f l with|some r=>some ((k,y)::r)|none=>none)|none=>none)
def Kr(f:Nat->Option Nat):Ob->Option Ob
 | .dead=>some .dead
 | .arr e k rows=>(match Qv f rows with|some r=>some (.arr e k r)|none=>none)
 | .map es=>(match Qw f es with|some r=>some (.map r)|none=>none)
 | .res=>none
 | .iter _ _=>none
 | .bld _ _ _ _=>none
def vM(Yo:Hy)(f:Nat->Option Nat):Prop:=∀m β m' β',Yo m β m' β'->m'=m/\∀i j,f i=some j->β' j=β i
theorem sP{Yo:Hy}{f:Nat->Option Nat}(hY:vM Yo f){n:Nat}{v v':V}(h:qD f n v=some v'):ap Yo v' v:=fun m β m' β' x hy hx=>by
 obtain⟨rfl,hf⟩:=hY _ _ _ _ hy
 grind [HB]
theorem z6{Yo:Hy}{f:Nat->Option Nat}(hY:vM Yo f){n:Nat}{v v':V}(h:qD f n v=some v'):jJ Yo v' v:=.sub (sP hY h) (HC h)
theorem HD{f:Nat->Option Nat}:∀{l r:List (List V)},Qv f l=some r->r.length=l.length/\∀(i:Nat) c c',l[i]? = some c->r[i]? = some c'->BR (qD f 12) c=some c'
 |[],r,h=>by simp_all[Qv]
 |x::l,r,h=>by
  simp only[Qv] at h;split at h
  ·rename_i y hy;split at h
   ·rename_i q hq;simp at h;subst h;obtain⟨h1,h2⟩:=HD hq;refine⟨by simp[h1],fun i c c' a b=>?_⟩;cases i with
    |zero=>simp at a b;subst a;subst b;exact hy
    |succ i=>exact h2 i c c' (by simpa using a) (by simpa using b)
   ·simp at h
  ·simp at h
theorem HE{f:Nat->Option Nat}:∀{l r:List (Value×V)},Qw f l=some r->r.length=l.length/\∀(i:Nat) c c',l[i]? = some c->r[i]? = some c'->c'.1=c.1/\qD f 12 c.2=some c'.2
 |[],r,h=>by simp_all[Qw]
 |(k,x)::l,r,h=>by
  simp only[Qw] at h;split at h
  ·rename_i y hy;split at h
   ·rename_i q hq;simp at h;subst h;obtain⟨h1,h2⟩:=HE hq;refine⟨by simp[h1],fun i c c' a b=>?_⟩;cases i with
    |zero=>simp at a b;subst a;subst b;exact⟨Y,hy⟩
    |succ i=>exact h2 i c c' (by simpa using a) (by simpa using b)
   ·simp at h
  ·simp at h
theorem Dd{Yo:Hy}{f:Nat->Option Nat}(hY:vM Yo f){ob ob':Ob}(h:Kr f ob=some ob'):ae Yo ob' ob:=by
 cases ob with
 |dead=>simp[Kr] at h;subst h;trivial
 |res=>simp[Kr] at h
 |iter c l=>simp[Kr] at h
 |bld T e l=>simp[Kr] at h
 |arr e k rows=>
  simp only[Kr] at h;split at h
  ·rename_i r hr;simp at h;subst h;obtain⟨h1,h2⟩:=HD hr;refine⟨Y,Y,h1,fun i r' r0 a b=>?_⟩
   grind [BQ,z6]
  grind
 |map es=>
  simp only[Kr] at h;split at h
  ·rename_i r hr;simp at h;subst h;obtain⟨h1,h2⟩:=HE hr;refine⟨h1,fun i p p' a b=>?_⟩
   grind [z6]
  grind
theorem z7{Yo:Hy}{f:Nat->Option Nat}(hY:vM Yo f){n:Nat}:∀{l r:List V},BR (qD f n) l=some r->iW Yo r l
 |[],r,h=>by simp[BR] at h;subst h;exact .nil
 |x::l,r,h=>by
  simp only[BR] at h;split at h
  ·rename_i y hy;split at h
   ·rename_i q hq;simp at h;subst h;exact .cons (sP hY hy) (z7 hY hq)
   ·simp at h
  ·simp at h
def B0(f:V->List Nat):List V->List Nat
 |[]=>[]
 |x::l=>f x++B0 f l
def Al:Nat->V->List Nat
 |0,_=>[]
 |n+1,v=>(match v with
  | .agg cs=>B0 (Al n) cs
  | .tup cs=>B0 (Al n) cs
  | .fn _ a b=>B0 (Al n) a++B0 (Al n) b
  | .ptr id _ _ _=>[id]
  | .own id _=>[id]
  | .map id=>[id]
  |_=>[])
def QE:List (List V)->List Nat
 |[]=>[]
 |r::l=>B0 (Al 12) r++QE l
def QG:List (Value×V)->List Nat
 |[]=>[]
 |p::l=>Al 12 p.2++QG l
def QF:Ob->List Nat
 | .arr _ _ rows=>QE rows
 | .map es=>QG es
 |_=>[]
def xG(hp:aJ):Nat->List Nat->List Nat->Option (List Nat)
 |0,_,_=>none
 |n+1,l,acc=>(match l with
  |[]=>some acc
  |i::l=>(match wo i acc with
   |false=>xG hp n l acc
   |true=>xG hp n (QF (ao hp i)++l) (acc++[i])))
def vw:List Nat->Nat->Nat->Option Nat
 |[],_,_=>none
 |x::l,j,i=>bif Nat.beq x i then some j else vw l (j+1) i
theorem ye:∀{l:List Nat} {j i r:Nat},vw l j i=some r->∃q,r=j+q/\mK l q=some i
 |x::l,j,i,r,h=>by
  simp only[vw] at h;cases hb:Nat.beq x i with
  |true=>rw[hb] at h;simp at h;exact⟨0,h.symm,by rw[cd8 hb];rfl⟩
  |false=>
   rw[hb] at h;simp at h;obtain⟨q,h1,h2⟩:=ye h;exact⟨q+1,by omega,h2⟩
 |[],j,i,r,h=>by simp[vw] at h
def KB(f:Nat->Option Nat)(hp:aJ):Nat->List Nat->Option (aJ×aJ)
 |_,[]=>some ([],[])
 |j,i::l=>(match Kr f (ao hp i) with
  |some ob=>(match KB f hp (j+1) l with|some (h,r)=>some ((j,ob)::h,(i,ao hp i)::r)|none=>none)
  |none=>none)
theorem BY{Yo:Hy}{f:Nat->Option Nat}(hY:vM Yo f){hp hpS:aJ}{R0:List Nat}:∀{l:List Nat} {j:Nat} {h r:aJ},(∀q i,mK l q=some i->mK R0 (j+q)=some i)->KB f hp j l=some (h,r)->mz hpS r->
  bT Yo R0.length (sg R0) hpS h
 |[],j,h,r,hR,hh,hr=>by simp[KB] at hh;obtain⟨rfl,rfl⟩:=hh;exact .nil
 |i::l,j,h,r,hR,hh,hr=>by
  simp only[KB] at hh;split at hh
  ·rename_i ob ho;split at hh
   ·rename_i h' r' hq;simp at hh;obtain⟨rfl,rfl⟩:=hh;have h0:=hR 0 i rfl;obtain⟨a1,a2⟩:=lg h0;simp only[bc8] at a1 a2;refine .cons a1 ?_ (BY hY (fun q i' hq'=>by have:=hR (q+1) i' hq';grind) hq hr.2);rw[a2,hr.1];exact Dd hY ho
   grind
  grind
theorem BX{f:Nat->Option Nat}{hp:aJ}:∀{l:List Nat} {j:Nat} {h r:aJ},KB f hp j l=some (h,r)->mz hp r
 |[],j,h,r,hh=>by simp[KB] at hh;obtain⟨rfl,rfl⟩:=hh;trivial
 |i::l,j,h,r,hh=>by
  simp only[KB] at hh;split at hh
  ·split at hh
   ·rename_i h' r' hq;simp at hh;obtain⟨rfl,rfl⟩:=hh;exact⟨Y,BX hq⟩
   ·simp at hh
  ·simp at hh
def G1(f:Nat->Option Nat)(hp':aJ):Nat->List Nat->Option aJ
 |_,[]=>some []
 |j,i::l=>(match Kr f (ao hp' j) with
  |some ob=>(match G1 f hp' (j+1) l with|some u=>some ((i,ob)::u)|none=>none)
  |none=>none)
theorem C7{Yo:Hy}{f:Nat->Option Nat}(hY:vM Yo f){hp':aJ}{R0:List Nat}:∀{l:List Nat} {j:Nat} {u:aJ},(∀q i,mK l q=some i->mK R0 (j+q)=some i)->j+l.length=R0.length->G1 f hp' j l=some u->me Yo (sg R0) hp' R0.length j u
 |[],j,u,hR,hl,h=>by simp[G1] at h;subst h;simp at hl;subst hl;exact .nil
 |i::l,j,u,hR,hl,h=>by
  simp only[G1] at h;split at h
  ·rename_i ob ho;split at h
   ·rename_i u' hu;simp at h;subst h;have h0:=hR 0 i rfl;obtain⟨a1,a2⟩:=lg h0;simp only[bc8] at a1 a2;exact .cons a2 (Dd hY ho) (C7 hY (fun q i' hq'=>by have:=hR (q+1) i' hq';grind) (by grind) hu)
   grind
  grind
def mD(fr:Nat):Nat->List Nat
 |0=>[]
 |n+1=>fr::mD (fr+1) n
def GY:List Nat->aJ->Bool
 |[],_=>true
 |i::l,hp=>(match rj hp i with|some .res=>GY l hp|_=>false)
def Kj(l:List Nat):aJ:=l.map fun i=>(i,.res)
theorem xE:∀{l:List Nat} {hp:aJ},GY l hp=true->mz hp (Kj l)
 |[],hp,_=>trivial
 |i::l,hp,h=>by
  simp only[GY] at h;split at h
  ·rename_i ho;exact⟨gk ho,xE h⟩
  ·simp at h
theorem pO{hp:aJ}:∀{a b:aJ},mz hp (a++b)<->mz hp a/\mz hp b
 |[],b=>by simp[mz]
 |(i,o)::a,b=>by
  simp_all[pO,mz,and_assoc]
theorem xF:∀{l:List Nat} {hp:aJ},mz hp (Kj l)->∀i,i∈l->ao hp i=.res
 |[],_,_,i,hi=>by simp at hi
 |j::l,hp,h,i,hi=>by
  rcases aq9.1 hi with rfl|hi
  ·exact h.1
  ·exact xF (l:=l) h.2 i hi
theorem tC:∀{n fr i:Nat},i∈mD fr n<->fr<=i/\i<fr+n
 |0,fr,i=>by simp[mD]
 |n+1,fr,i=>by simp only[mD,aq9,tC (n:=n)];omega
theorem BT{R:List Nat}{j i:Nat}(h:mK R j=some i):sg R j=i/\j<R.length:=by
 obtain⟨a,b⟩:=lg h<;>simp_all
def SO(cb:Nat->List V->aJ->Nat->Option (V×aJ×Nat))(f:Nat)(avs:List V)(hp:aJ)(fr nx:Nat):Option (V×aJ×aJ×Nat):=
 match xG hp 2000 (B0 (Al 12) avs) [] with
 |some R=>(match BR (qD (vw R 0) 12) avs with
  |some avs'=>(match KB (vw R 0) hp 0 R with
   |some (hpc,rh)=>(match cb f avs' hpc R.length with
    |some (dc,hp',k')=>
     let nw:=mD fr (k' - R.length)
     let ρ:=R++nw
     (match Nat.ble R.length k'&&GY nw hp&&Ef R.length k' nx nx (sg R) (sg ρ) (fun i=>Nat.ble fr i&&Nat.blt i (fr+(k' - R.length)))&&si k' (sg ρ) with
     |true=>(match qD (mK ρ) 12 dc with
      |some dv=>(match G1 (mK ρ) hp' 0 ρ with
       |some u=>some (dv,rh++Kj nw,u,fr+(k' - R.length))
       |none=>none)
      |none=>none)
     |false=>none)
    |none=>none)
   |none=>none)
  |none=>none)
 |none=>none
theorem Ow{cb:Nat->List V->aJ->Nat->Option (V×aJ×Nat)}(hcb:∀f avs hp k v hp' k',cb f avs hp k=some (v,hp',k')->cP K.P f=true/\iH K.gl K.P f avs k hp v k' hp'){f:Nat}{avs:List V}{hp rh u:aJ}{fr fr' nx d:Nat}{dv:V}
  (h:SO cb f avs hp fr nx=some (dv,rh,u,fr')) (hpin:K.pins<=fr) (ht:dm K.P t) {o:Oper} {e:cE} (hc:Q5 t e o.op=some (f,avs)) (hdst:o.dst=some d) (hN:Nat.blt d K.N=true):
  mz hp rh/\fr<=fr'/\∀S,S.nx=nx->Ag e S->mz S.hp rh->aT ops S o true->aD K ops rest Q ⟨(d,dv)::S.env,u++S.hp,S.nx⟩->aD K ops (o::rest) Q S:=by
 unfold SO at h;split at h
 ·rename_i R hR;split at h
  ·rename_i avs' ha;split at h
   ·rename_i hpc rh0 hin;split at h
    ·rename_i dc hp' k' hcall;obtain⟨q1,q2⟩:=hcb _ _ _ _ _ _ _ hcall;simp only at h;split at h
     ·rename_i hb;simp only[ao8] at hb;obtain⟨⟨⟨b1,b2⟩,b3⟩,b4⟩:=hb;have b1':=av8 b1;split at h
      ·rename_i dv' hdv;split at h
       ·rename_i u' hu;simp only[av9,Prod.mk.injEq] at h;obtain⟨rfl,rfl,rfl,rfl⟩:=h
        have hl:(R++mD fr (k' - R.length)).length=k':=by
         have:∀n fr,(mD fr n).length=n:=by intro n;induction n with|zero=>intro _;rfl|succ n ih=>simp_all[mD]
         simp[this];omega
        have hYR:vM (Ren R.length (sg R)) (vw R 0):=by
         rintro m β m' β' ⟨rfl,hy⟩
         refine⟨Y,fun i j hij=>?_⟩;obtain⟨q,e1,e2⟩:=ye hij;obtain⟨s1,s2⟩:=BT e2
         grind
        have hYT:vM (To k' (sg (R++mD fr (k' - R.length)))) (mK (R++mD fr (k' - R.length))):=by
         rintro m β m' β' ⟨rfl,hy⟩
         refine⟨Y,fun i j hij=>?_⟩;obtain⟨s1,s2⟩:=BT hij
         grind
        refine⟨pO.2 ⟨BX hin,xE b2⟩,Nat.le_add_right _ _,fun S hn hag hrd hw kk=>?_⟩;obtain⟨r1,r2⟩:=pO.1 hrd
        have hun:me (To k' (sg (R++mD fr (k' - R.length)))) (sg (R++mD fr (k' - R.length))) hp' k' 0 u':=by
         have:=C7 (R0:=R++mD fr (k' - R.length)) hYT (j:=0) (fun q i h=>by grind) (by simp) hu;rw[hl] at this;exact this
        refine ip (sg R) (sg (R++mD fr (k' - R.length))) S.nx u' _ hw hdst hN (qg ht hag hc q1) (z7 hYR ha) (bT.get (BY hYR (fun q i h=>by grind) hin r1)) q2 (fun i hi=>?_) (by rw[hn];exact b3) b4
         (ce8 (ae9 _)) b1 (fun i hi=>?_) (sP hYT hdv) hun kk
        ·simp only[ao8] at hi;exact xF r2 i (tC.2 ⟨av8 hi.1,av8 hi.2⟩)
        ·simp only[ao8] at hi;exact bq8 hpin (av8 hi.1)
       grind
      grind
     grind
    grind
   grind
  grind
 grind
def PM(nx:Nat):aJ->aJ
 |[]=>[]
 |(i,o)::l=>bif Nat.blt i nx then (i,o)::PM nx l else PM nx l
def BK(hp:aJ):Nat->Nat->aJ->aJ
 |_,0,r=>r
 |i,n+1,r=>(match ao hp i with | .res=>BK hp (i+1) n r | .dead=>BK hp (i+1) n r|o=>(i,o)::BK hp (i+1) n r)
def Dx(nx n:Nat)(hp:aJ):aJ:=BK hp nx n (PM nx hp)
theorem K0(i n:Nat){α:Type}(a b:α):(bif Nat.blt i n then a else b)=if i<n then a else b:=by
 simp_all
theorem HL(nx:Nat):∀(l:aJ) (t:Nat),ao (PM nx l) t=if t<nx then ao l t else .dead
 |[],t=>by simp[PM,ao]
 |(i,o)::l,t=>by
  have ih:=HL nx l t;simp only[PM,K0];split
  ·rename_i h;rw[ar,ar,ih]
   grind
  ·rename_i h;rw[ih,ar]
   grind
theorem C2(hp:aJ):∀(n i:Nat) (r:aJ) (t:Nat),ao (BK hp i n r) t=ao r t\/(i<=t/\ao (BK hp i n r) t=ao hp t)
 |0,i,r,t=>.inl rfl
 |n+1,i,r,t=>by
  have ih:=C2 hp n (i+1) r t;simp only[BK];split
  ·grind
  ·grind
  ·rw[ar]
   grind
theorem Io(nx n:Nat)(hp:aJ)(t:Nat):ao (Dx nx n hp) t=ao hp t\/ao (Dx nx n hp) t=.dead:=by
 grind [Dx,C2,HL]
theorem cw.less{m:bZ}{β:bw}{w:World}{a:Act}(r:cw K m β w a S){hp:aJ}(h:∀t,ao hp t=ao S.hp t\/ao hp t=.dead):cw K m β w a ⟨S.env,hp,S.nx⟩:=by
 have hl:∀i,ao hp i≠.dead->ao S.hp i≠.dead:=fun i hi=>by grind
 constructor
 ·exact r.imm
 ·exact r.ext
 ·exact r.mold
 ·exact r.frame
 ·exact r.size
 ·exact r.same
 ·exact r.tn
 ·exact r.df
 ·exact r.env
 ·intro id
  show bI m β w _ _ (ao hp id)
  rcases h id with e|e
  ·rw[e];exact r.own id
  simp_all[bI.dead']
 ·exact fun id b cap hi=>r.priv id b cap (hl id hi)
 ·exact fun id id' b cap cap' hi hi'=>r.inj id id' b cap cap' (hl id hi) (hl id' hi')
 ·exact fun id x hi hx=>(r.hid id x (hl id hi) hx).weak hl
 ·exact r.nx
 ·exact r.pin
theorem Ca{e:cE}{hp hp':aJ}{nx:Nat}(h:∀t,ao hp' t=ao hp t\/ao hp' t=.dead):bb K ⟨e,hp,nx⟩ ⟨e,hp',nx⟩:=fun m β _ _ r=>⟨m,β,r.less h⟩
end
section
variable{K:dE}{Q:cG}{S S':St}{ops:Array Oper}{rest:List Oper}{t:TT}{ty:TypeId}{pos:String}{after:Array Edge}{g:Option (Nat×Bool)}
theorem yh(u q e k:Nat)(ht:get S.env u=nV)(hq:ao S.hp q=.res)(hlt:q<S.nx)(hpin:K.pins<=q):bb K S ⟨(u,.own q 0)::S.env,(q,.arr e k [])::S.hp,S.nx⟩:=by
 intro m β w a r;have hf:β q=none:=r.free hq
 let β':bw:=⟨fun i=>if i=q then some none else β i,fun i=>if i=q then fun _=>False else β.hid i⟩
 have hq':β' q=some none:=by show(if q=q then _ else _)=_;grind
 have ho:∀i,i≠q->β' i=β i:=fun i h=>by grind
 have hle:β.le β':=fun i l h=>by
  grind
 have hn:β'.hid q=fun _=>False:=by show(if _ then _ else _)=_;grind
 have hho:∀i,i≠q->β'.hid i=β.hid i:=fun i h=>by grind
 have hlive:∀i,i≠q->ao ((q,Ob.arr e k [])::S.hp) i≠.dead->ao S.hp i≠.dead:=by
  intro i h hi;rw[ar,if_neg (Ne.symm h)] at hi;exact hi
 refine⟨m,β',r.imm,r.ext,r.mold,r.frame,r.size,r.same,r.tn,r.df,?_,?_,?_,?_,?_,fun id h=>(ho id (by grind)).trans (r.nx id h),fun p hp=>⟨(r.pin p hp).1,(ho p (by omega)).trans (r.pin p hp).2⟩⟩
 ·intro i
  show bP m β' (get ((u,.own q 0)::S.env) i) _
  rw[dg];split
  ·rename_i h;subst h;have:=r.env u;rw[ht] at this;rw[this.of_con];exact .ownNil hq'
  ·exact(r.env i).mono (bZ.le_refl _) hle
 ·intro id
  show bI m β' w (β'.hid id) (β' id) (ao ((q,Ob.arr e k [])::S.hp) id)
  rw[ar];split
  ·simp_all[bI]
  ·rename_i h;rw[hho id (Ne.symm h),ho id (Ne.symm h)];exact bI.mono (bZ.le_refl _) hle (fun _ _ h=>h) (fun _ _=>Y) (r.own id)
 ·intro id b cap hl hb;by_cases h:id=q
  ·grind
  ·rw[ho id h] at hb;exact r.priv id b cap (hlive id h hl) hb
 ·intro id id' b c c' hl hl' hb hb';by_cases h:id=q
  ·grind
  ·by_cases h':id'=q
   ·grind
   ·rw[ho id h] at hb;rw[ho id' h'] at hb';exact r.inj id id' b c c' (hlive id h hl) (hlive id' h' hl') hb hb'
 ·intro id x hl hx;by_cases h:id=q
  ·grind
  ·rw[hho id h] at hx;have z:=r.hid id x (hlive id h hl) hx;refine⟨z.lt,z.m,z.old,fun i b c hi hb=>?_,fun i hi hx'=>?_⟩
   ·by_cases h':i=q
    ·grind
    ·rw[ho i h'] at hb;exact z.ne i b c (hlive i h' hi) hb
   ·by_cases h':i=q
    ·grind
    ·rw[hho i h'] at hx';exact z.un i (hlive i h' hi) hx'
theorem qp{d T T' e k bytes n' nx u:Nat}{x:Operand}{sv:V}(idn q:Nat)(hid:(Nat.blt idn nx&&Nat.ble K.pins idn)=true)(hidq:(Nat.blt q nx&&Nat.ble K.pins q)=true)(hne:idn≠q)(hnxx:S.nx=nx)(hres:ao S.hp idn=.res)(hresq:ao S.hp q=.res)(rows2:List (List V))(hT:eQ K.P T e k bytes=true)(hT':cZ K.P T'=true)
  (hpos:Nat.blt 0 bytes=true) (hkp:Nat.blt 0 k=true)
  (hw:aT ops S ⟨some d,.call ⟨.builtin .append,#[.tmp u,x],#[T,T']⟩,ty,pos,after,none⟩ true)
  (hs:get S.env u=nV) (hx:cv K ⟨(u,.own q 0)::S.env,(q,.arr e k [])::S.hp,S.nx⟩ x=sv) (hsrc:zo ⟨(u,.own q 0)::S.env,(q,.arr e k [])::S.hp,S.nx⟩ k sv rows2)
  (hn':rows2.length=n') (hb:n'*bytes<=140737488355328) (hN:Nat.blt d K.N=true)
  (kk:aD K ops rest Q ⟨(d,.own idn n')::(u,.any)::S.env,(idn,.arr e k rows2)::(q,.dead)::S.hp,S.nx⟩):
  aD K ops (⟨some d,.call ⟨.builtin .append,#[.tmp u,x],#[T,T']⟩,ty,pos,after,none⟩::rest) Q S:=by
 simp only[ao8] at hidq;refine aU (yh u q e k hs hresq (by simp_all) (av8 hidq.2)) ?_;refine bF (S:=⟨(u,.own q 0)::S.env,(q,.arr e k [])::S.hp,S.nx⟩) (id:=q) (n:=0) (rows:=[]) idn hid hnxx (by simp_all[ar,Ne.symm]) rows2 rows2 hT hT' hpos hkp Y (by show get ((u,.own q 0)::S.env) u=_;simp_all[dg]) (by simp_all[ar]) Y hx hsrc Y hn' hb hN ?_;refine aU (rl ((d,.own idn n')::(u,.any)::S.env) ((idn,.arr e k rows2)::(q,.dead)::S.hp) (fun i=>?_) (fun i=>?_)) kk
 ·grind [dg,ap.keepI,ap.any]
 ·show ae Mi (ao ((idn,.arr e k rows2)::(q,.dead)::S.hp) i) (ao ((idn,.arr e k rows2)::(q,.dead)::(q,.arr e k [])::S.hp) i)
  simp_all[ar,ae.keep,ap.keepI]
def NH(k:Nat)(e:cE)(hp:aJ)(y:Operand):Option (List (List V)):=match eX e y with
 |some (.own id2 n2)=>(match rj hp id2 with
  |some (.arr _ k3 rows2)=>(match Nat.beq k3 k&&Nat.beq rows2.length n2&&NY rows2 with|true=>some rows2|false=>none)
  |_=>none)
 |some (.con (.slice none 0 0))=>some []
 |_=>none
theorem Ke{k:Nat}{e:cE}{hp:aJ}{y:Operand}{rows2:List (List V)}(h:NH k e hp y=some rows2)(ha:Ag e S)(hh:JF hp S):zo S k (cv K S y) rows2:=by
 unfold NH at h;split at h
 ·rename_i id2 n2 hy;split at h
  ·rename_i k3 rows3 ho;split at h
   ·rename_i hb;simp only[ao8] at hb;simp only[av9] at h;subst h;have e4:=cd8 hb.1.1;subst e4;rw[bd ha hy]
    exact .own (hh _ _ ho) (cd8 hb.1.2) (fun row hr c hc=>by
     obtain⟨j,hj⟩:=ba9 hc;exact lx (tT hb.2 row hr) hj)
   grind
  grind
 ·rename_i hy;simp only[av9] at h;subst h;rw[bd ha hy];exact .nil
 grind
def ST(t:TT)(d:Nat)(e:cE)(hp:aJ)(fr:Nat):Op->Option (cE×aJ×Nat)
 | .call c=>(match c.callee,c.args.toList,c.argTypes.toList with
  | .builtin .append,[.tmp a,y],[T,T']=>(match dV t T TF.qEl,dV t T' TF.qSn with
   |some (ety,k,bytes),some _=>(match Nat.blt 0 bytes&&Nat.blt 0 k with
    |true=>(match NH k e hp y with
     |some rows2=>(match qE e a with
      |some (.own id n)=>(match rj hp id with
       |some (.arr e2 k2 rows)=>(match Nat.beq ety e2&&Nat.beq k k2&&Nat.beq rows.length n&&Nat.ble ((rows++rows2).length*bytes) 140737488355328 with
        |true=>some ([(d,.own fr (rows++rows2).length)],[(fr,.arr ety k (rows++rows2)),(id,.dead)],1)
        |false=>none)
       |_=>none)
      |some (.con (.slice none 0 0))=>(match Nat.ble (rows2.length*bytes) 140737488355328&&(match y with | .tmp b=>bif Nat.beq b a then false else true|_=>true) with
       |true=>some ([(d,.own fr rows2.length),(a,.any)],[(fr,.arr ety k rows2),(fr+1,.dead)],2)
       |false=>none)
      |_=>none)
     |none=>none)
    |false=>none)
   |_,_=>none)
  |_,_,_=>none)
 |_=>none
theorem NG{k u q e:Nat}{sv:V}{rows2:List (List V)}(h:zo S k sv rows2)(hq:ao S.hp q=.res):zo ⟨(u,.own q 0)::S.env,(q,.arr e k [])::S.hp,S.nx⟩ k sv rows2:=by
 cases h with
 |own ho hn hd=>
  exact .own (by
   rw[ar];split
   ·rename_i h;subst h;rw[hq] at ho;simp at ho
   ·exact ho) hn hd
 |lst h=>exact .lst h
 |nil=>exact .nil
 |str hk hr=>exact .str hk hr
theorem OC{op:Op}(ht:dm K.P t){d:Nat}{e:cE}{hp:aJ}{fr nx q:Nat}{ue:cE}{uh:aJ}(ha:Ag e S)(hh:JF hp S)(hnx:S.nx=nx)(h:ST t d e hp fr op=some (ue,uh,q))(hres:∀i,fr<=i->i<fr+q->ao S.hp i=.res/\i<nx)(hpin:K.pins<=fr)
  (hN:Nat.blt d K.N=true) (k:aD K ops rest Q ⟨ue++S.env,uh++S.hp,S.nx⟩):aD K ops (⟨some d,op,ty,pos,after,none⟩::rest) Q S:=by
 cases op<;>simp only[ST,reduceCtorEq] at h;rename_i c;obtain⟨callee,args,at'⟩:=c;simp only at h;split at h
 ·rename_i a y T T' hargs hats;have hargs:=dZ hargs;have hats:=dZ hats;subst hargs;subst hats;split at h
  ·rename_i ety kk bytes _ hT hT';split at h
   ·rename_i hb0;simp only[ao8] at hb0;split at h
    ·rename_i rows2 hy;have hsrc:=Ke (K:=K) hy ha hh;split at h
     ·rename_i id n hx;split at h
      ·rename_i e2 k2 rows ho;split at h
       ·rename_i hb;simp only[ao8] at hb;have e1:=cd8 hb.1.1.1;have e2:=cd8 hb.1.1.2;have e3:=cd8 hb.1.2;subst e1;subst e2;simp only[av9,Prod.mk.injEq] at h;obtain⟨rfl,rfl,rfl⟩:=h;obtain⟨r1,r2⟩:=hres fr (ae9 _) (ak9 _);exact bF fr (by simp only[ao8];exact⟨ce8 r2,ce8 hpin⟩) hnx r1 rows2 _ (mj ht hT) (kV ht hT') hb0.1 hb0.2 Y (ha _ _ hx) (hh _ _ ho) e3 Y hsrc Y Y (av8 hb.2) hN k
       ·simp at h
      ·simp at h
     ·rename_i hx;split at h
      ·rename_i hb;simp only[ao8] at hb;simp only[av9,Prod.mk.injEq] at h;obtain⟨rfl,rfl,rfl⟩:=h;obtain⟨r1,r2⟩:=hres fr (ae9 _) (by omega);obtain⟨q1,q2⟩:=hres (fr+1) (ak8 _) (by omega)
       have hey:cv K ⟨(a,.own (fr+1) 0)::S.env,(fr+1,.arr ety kk [])::S.hp,S.nx⟩ y=cv K S y:=by
        cases y with
        |tmp b=>
         have hba:b≠a:=fun e=>by
          subst e;have:=hb.2;simp at this
         show get ((a,.own (fr+1) 0)::S.env) b=get S.env b
         rw[dg,if_neg (Ne.symm hba)]
        |const v=>rfl
        |global g=>rfl
        |func f=>rfl
       refine qp fr (fr+1) (by simp only[ao8];exact⟨ce8 r2,ce8 hpin⟩) (by simp only[ao8];exact⟨ce8 q2,ce8 (Nat.le_succ_of_le hpin)⟩) (by omega) hnx r1 q1 rows2 (mj ht hT) (kV ht hT') hb0.1 hb0.2 Y (ha _ _ hx) hey (NG hsrc q1) Y (av8 hb.1) hN k
      ·simp at h
     ·simp at h
    ·simp at h
   ·simp at h
  ·simp at h
 ·simp at h
end
section
variable{K:dE}{Q:cG}{S S':St}{ops:Array Oper}{rest:List Oper}{t:TT}
def Sx(cb:Nat->List V->Option V)(cb2:Nat->List V->aJ->Nat->Option (V×aJ×Nat))(t:TT)(mt:List MT)(N fr:Nat)(ops:Array Oper)(o:Oper)(e:cE)(hp:aJ)(nx:Nat):Option (OD×Nat):=
 match NO ops o e with
 |none=>none
 |some re=>(match wt ops re o.guard with
  |none=>none
  |some b=>(match b with
   |false=>(match o.dst with|some d=>(match Nat.blt d N with|true=>some (⟨re,[],[(d,.con undef)],[]⟩,fr)|false=>none)|none=>none)
   |true=>(match QI re hp (hrO o.op) [] with
    |none=>none
    |some rh=>(match o.dst with
     |some d=>(match Nat.blt d N with
      |false=>none
      |true=>(match val t re rh o.op with
       |some v=>some (⟨re,rh,[(d,v)],[]⟩,fr)
       |none=>(match MS t re fr o.op with
        |some (v,ob)=>(match Nat.blt fr nx,rj hp fr with
         |true,some .res=>some (⟨re,(fr,.res)::rh,[(d,v)],[(fr,ob)]⟩,fr+1)
         |_,_=>none)
        |none=>(match Q5 t re o.op with
         |some (f,avs)=>(match qs H3 avs,cb f avs with
          |true,some v=>some (⟨re,rh,[(d,v)],[]⟩,fr)
          |_,_=>(match SO cb2 f avs hp fr nx with
           |some (dv,rh2,u,fr')=>some (⟨re,rh2,[(d,dv)],u⟩,fr')
           |none=>none))
         |none=>(match oF t mt re rh nx o.op with
          |some (v,[],0)=>some (⟨re,rh,[(d,v)],[]⟩,fr)
          |_=>(match o.guard,ST t d re rh fr o.op with
           |none,some (ue,uh,q)=>(match Nat.ble (fr+q) nx&&GY (mD fr q) hp with
            |true=>some (⟨re,Kj (mD fr q)++rh,ue,uh⟩,fr+q)
            |false=>none)
           |_,_=>none))))))
     |none=>(match RV t mt re rh o.op with|some (id,ob)=>some (⟨re,rh,[],[(id,ob)]⟩,fr)|none=>none)))))
theorem NV{cb:Nat->List V->Option V}{cb2:Nat->List V->aJ->Nat->Option (V×aJ×Nat)}(hcb2:∀f avs hp k v hp' k',cb2 f avs hp k=some (v,hp',k')->cP K.P f=true/\iH K.gl K.P f avs k hp v k' hp')(hcb:∀f avs v,cb f avs=some v->cP K.P f=true/\ek K.gl K.P f avs v)(ht:dm K.P t){mt:List MT}(hmt:uY K.P mt){o:Oper}{D:OD}{e:cE}{hp:aJ}{fr fr' nx:Nat}(hpin:K.pins<=fr)
  (h:Sx cb cb2 t mt K.N fr ops o e hp nx=some (D,fr')):A2 K nx ops o D/\uW e D.re/\mz hp D.rh/\fr<=fr':=by
 unfold Sx at h;split at h
 ·simp at h
 ·rename_i re hre;have hre':=Kk hre;split at h
  ·simp at h
  ·rename_i b hw;split at h
   ·split at h
    ·rename_i d hd;split at h
     ·rename_i hN;simp at h;obtain⟨rfl,rfl⟩:=h;exact⟨fun S2 hn h1 h2=>ry (jL (dJ h1) hw) hd hN (aF ⟨Y,Y⟩),hre',trivial,ae9 _⟩
     grind
    grind
   ·split at h
    ·simp at h
    ·rename_i rh hrh;have hrh':=H6 (l:=[]) trivial hrh;obtain⟨dst,op,ty,pos,after,g⟩:=o;cases dst with
     |some d=>
      simp only at h;split at h
      ·simp at h
      ·rename_i hN;split at h
       ·rename_i v hv;simp at h;obtain⟨rfl,rfl⟩:=h;exact⟨fun S2 hn h1 h2=>Br ht (dJ h1) (po h2) hv (jL (dJ h1) hw) hN (aF ⟨Y,Y⟩),hre',hrh',ae9 _⟩
       ·split at h
        ·rename_i v ob hv;split at h
         ·rename_i hb hres;simp at h;obtain⟨rfl,rfl⟩:=h;exact⟨fun S2 hn h1 h2=>OF ht (dJ h1) hv (by simp_all) hn h2.1 (jL (dJ h1) hw) hN (aF ⟨Y,Y⟩),hre',⟨gk hres,hrh'⟩,ak8 _⟩
         grind
        ·split at h
         ·rename_i f avs hc;split at h
          ·rename_i v hai hcv;simp at h;obtain⟨rfl,rfl⟩:=h;obtain⟨q1,q2⟩:=hcb _ _ _ hcv;refine⟨fun S2 hn h1 h2=>?_,hre',hrh',ae9 _⟩;refine jr (o:=⟨some d,op,ty,pos,after,g⟩) (jL (dJ h1) hw) Y hN (fun m β w a r=>?_) q2 (aF ⟨Y,Y⟩);obtain⟨vs,e1,e2⟩:=qg ht (o:=⟨some d,op,ty,pos,after,g⟩) (dJ h1) hc q1 m β w a r;exact⟨vs,e1,⟨e2.len,fun i c v a b=>lA (lK hai c (aw9 a)) (e2.at' i c v a b)⟩⟩
          ·split at h
           ·rename_i dv rh2 u fr2 hB;simp only[av9,Prod.mk.injEq] at h;obtain⟨rfl,rfl⟩:=h;have p:=fun(Q:cG)=>Ow (Q:=Q) (ops:=ops) (rest:=[]) hcb2 hB hpin ht (o:=⟨some d,op,ty,pos,after,g⟩) hc rfl hN;exact⟨fun S2 hn h1 h2=>(p _).2.2 S2 hn (dJ h1) h2 (jL (dJ h1) hw) (aF ⟨Y,Y⟩),hre',(p (fun _ _=>True)).1,(p (fun _ _=>True)).2.1⟩
           grind
         ·split at h
          ·rename_i v hv;simp at h;obtain⟨rfl,rfl⟩:=h;exact⟨fun S2 hn h1 h2=>C8 ht hmt (dJ h1) (po h2) hn hv (jL (dJ h1) hw) hN (aF ⟨Y,Y⟩),hre',hrh',ae9 _⟩
          ·split at h
           ·rename_i ue uh q hap;split at h
            ·rename_i hb;simp only[ao8] at hb;simp only[av9,Prod.mk.injEq] at h;obtain⟨rfl,rfl⟩:=h;refine⟨fun S2 hn h1 h2=>?_,hre',pO.2 ⟨xE hb.2,hrh'⟩,Nat.le_add_right _ _⟩;obtain⟨y1,y2⟩:=pO.1 h2;exact OC ht (dJ h1) (po y2) hn hap (fun i h1 h2=>⟨xF y1 i (tC.2 ⟨h1,h2⟩),cg9 h2 (av8 hb.1)⟩) hpin hN (aF ⟨Y,Y⟩)
            grind
           grind
     |none=>
      simp only at h;split at h
      ·rename_i id ob hv;simp at h;obtain⟨rfl,rfl⟩:=h;exact⟨fun S2 hn h1 h2=>FV ht hmt (dJ h1) (po h2) hv (jL (dJ h1) hw) (aF ⟨Y,Y⟩),hre',hrh',ae9 _⟩
      grind
theorem Au{e e':cE}(h:∀t,get e t=get e' t):∀(u:cE) (t:Nat),get (u++e) t=get (u++e') t
 |[],t=>h t
 |(i,o)::u,t=>by
  show get ((i,o)::(u++e)) t=get ((i,o)::(u++e')) t
  rw[dg,dg,Au h u]
theorem wG{e e':aJ}(h:∀t,ao e t=ao e' t):∀(u:aJ) (t:Nat),ao (u++e) t=ao (u++e') t
 |[],t=>h t
 |(i,o)::u,t=>by
  show ao ((i,o)::(u++e)) t=ao ((i,o)::(u++e')) t
  rw[ar,ar,wG h u]
def PP(cb:Nat->List V->Option V)(cb2:Nat->List V->aJ->Nat->Option (V×aJ×Nat))(t:TT)(mt:List MT)(N:Nat)(ops:Array Oper):List Oper->Nat->cE->aJ->Nat->Option (List OD×cE×aJ)
 |[],_,e,hp,_=>some ([],e,hp)
 |o::l,fr,e,hp,nx=>(match Sx cb cb2 t mt N fr ops o e hp nx with
  |some (D,fr')=>(match PP cb cb2 t mt N ops l fr' (wc D.ue e) (rL D.uh hp) nx with|some (ds,e',hp')=>some (D::ds,e',hp')|none=>none)
  |none=>none)
theorem Ip{cb:Nat->List V->Option V}{cb2:Nat->List V->aJ->Nat->Option (V×aJ×Nat)}(hcb2:∀f avs hp k v hp' k',cb2 f avs hp k=some (v,hp',k')->cP K.P f=true/\iH K.gl K.P f avs k hp v k' hp')(hcb:∀f avs v,cb f avs=some v->cP K.P f=true/\ek K.gl K.P f avs v)(ht:dm K.P t){mt:List MT}(hmt:uY K.P mt){nx:Nat} :
  ∀{l:List Oper} {fr:Nat} {e e':cE} {hp hp':aJ} {ds:List OD} {S:St},K.pins<=fr->PP cb cb2 t mt K.N ops l fr e hp nx=some (ds,e',hp')->S.nx=nx->(∀t,get S.env t=get e t)->(∀t,ao S.hp t=ao hp t)->
  qz S ds/\pp K nx ops l ds/\(∀t,get (iA S ds).env t=get e' t)/\(∀t,ao (iA S ds).hp t=ao hp' t)/\(iA S ds).nx=nx
 |[],fr,e,e',hp,hp',ds,S,hpin,h,hn,h1,h2=>by
  simp[PP] at h;obtain⟨rfl,rfl,rfl⟩:=h;exact⟨trivial,.nil,h1,h2,hn⟩
 |o::l,fr,e,e',hp,hp',ds,S,hpin,h,hn,h1,h2=>by
  simp only[PP] at h;split at h
  ·rename_i D fr' hD;obtain⟨a1,a2,a3,a4⟩:=NV hcb2 hcb ht hmt hpin hD;split at h
   ·rename_i ds' e2 hp2 hR;simp at h;obtain⟨rfl,rfl,rfl⟩:=h;have:=Ip hcb2 hcb ht hmt (S:=S.upd D) (bq8 hpin a4) hR hn (fun t=>(Au h1 _ t).trans (rm _ _ t).symm) (fun t=>(wG h2 _ t).trans (lB _ _ t).symm);exact⟨⟨uW.congr (fun t _=>(h1 t).symm) a2,mz.congr (fun t _=>(h2 t).symm) a3,this.1⟩,.cons a1 this.2.1,this.2.2⟩
   ·simp at h
  ·simp at h
def GZ(nx:Nat):Nat->aJ->aJ
 |0,hp=>hp
 |n+1,hp=>(nx+n,.res)::GZ nx n hp
theorem DH{c:Code}{e:cE}{hp:aJ}{nx:Nat}:∀(n:Nat),jF K c Q ⟨e,GZ nx n hp,nx+n⟩->jF K c Q ⟨e,hp,nx⟩
 |0,h=>h
 |n+1,h=>DH n (aP bD h)
theorem IP{c:Code}(h:K.pins<=S.nx->jF K c Q S):jF K c Q S:=by
 intro m β w a r;refine h ?_ m β w a r;cases hp:K.pins with
 |zero=>grind
 |succ q=>have:=(r.pin q (by omega)).1;omega
theorem Oy{cb:Nat->List V->Option V}{cb2:Nat->List V->aJ->Nat->Option (V×aJ×Nat)}(hcb2:∀f avs hp k v hp' k',cb2 f avs hp k=some (v,hp',k')->cP K.P f=true/\iH K.gl K.P f avs k hp v k' hp')(hcb:∀f avs v,cb f avs=some v->cP K.P f=true/\ek K.gl K.P f avs v)(ht:dm K.P t){mt:List MT}(hmt:uY K.P mt)(hm:K.P.follows .mixedOrders=true){rid n nx:Nat}{e e':cE}{hp hp':aJ}{ds:List OD}
  (h:PP cb cb2 t mt K.N ops ops.toList nx e (GZ nx n hp) (nx+n)=some (ds,e',hp')) (hok:rY ops.toList ds=true) (k:∀S1,bb K S1 ⟨e',hp',nx+n⟩->Q .normal S1):jF K (.region rid ops true) Q ⟨e,hp,nx⟩:=by
 refine IP (fun hpin=>DH n ?_);obtain⟨l⟩:=ops;obtain⟨a1,a2,a3,a4,a5⟩:=Ip hcb2 hcb ht hmt (S:=⟨e,GZ nx n hp,nx+n⟩) hpin h rfl (fun _=>rfl) (fun _=>rfl);exact K6 ds hm a1 hok a2 (k _ (fun m β _ _ r=>⟨m,β,r.congr (fun t=>(a3 t).symm) (fun t=>(a4 t).symm) a5.symm⟩))
end
section
variable{K:dE}{Q:cG}{S S':St}{t:TT}
def rvT:ResultVar->Nat
 | .tmp x=>x
 | .cell x _=>x
def Qi(e:cE):List ResultVar->Option (List (Nat×V))
 |[]=>some []
 |r::l=>(match qE e (rvT r) with|some v=>(match Qi e l with|some q=>some ((rvT r,v)::q)|none=>none)|none=>none)
def Qx(f:Nat->Option Nat):List (Nat×V)->Option cE
 |[]=>some []
 |(x,v)::l=>(match qD f 12 v with|some y=>(match Qx f l with|some q=>some ((x,y)::q)|none=>none)|none=>none)
def H5(hp:aJ):Nat->List Nat
 |0=>[]
 |q+1=>QF (ao hp q)++H5 hp q
def QH:List (Nat×V)->List Nat
 |[]=>[]
 |p::l=>Al 12 p.2++QH l
def SM(k:Nat)(rs:List ResultVar):St->Option St
 |⟨e,hp,nx⟩=>(match Qi e rs with
  |some l=>(match xG hp 4000 (H5 hp k++QH l) (mD 0 k) with
   |some R=>(match Qx (vw R 0) l with
    |some e2=>(match KB (vw R 0) hp 0 R with
     |some (h2,_)=>(match nodup R&&wi R k with|true=>some ⟨e2,h2,R.length⟩|false=>none)
     |none=>none)
    |none=>none)
   |none=>none)
  |none=>none)
theorem F2{R:List Nat}:vM (Ren R.length (sg R)) (vw R 0):=by
 rintro m β m' β' ⟨rfl,h⟩
 refine⟨Y,fun i j hij=>?_⟩;obtain⟨q,rfl,hq⟩:=ye hij<;>simp_all[BT]
theorem De{Yo:Hy}{f:Nat->Option Nat}(hY:vM Yo f){e:cE}{rs:List ResultVar}:∀{l:List (Nat×V)} {e2:cE},(∀p,p∈l->get e p.1=p.2)->Qx f l=some e2->bY Yo e e2
 |[],e2,_,h=>by simp[Qx] at h;subst h;exact .nil
 |(x,v)::l,e2,hl,h=>by
  simp only[Qx] at h;split at h
  ·rename_i y hy;split at h
   ·rename_i q hq;simp at h;subst h;exact .cons (by grind [List.mem_cons_self,sP]) (De (rs:=rs) hY (fun p hp=>hl p (bs8 _ hp)) hq)
   grind
  grind
theorem GS{e:cE}:∀{rs:List ResultVar} {l:List (Nat×V)},Qi e rs=some l->∀p,p∈l->get e p.1=p.2
 |[],l,h,p,hp=>by simp_all[Qi]
 |r::rs,l,h,p,hp=>by
  simp only[Qi] at h;split at h
  ·rename_i v hv;split at h
   ·rename_i q hq;simp at h;subst h;rcases aq9.1 hp with rfl|hp
    ·exact eu hv
    ·exact GS hq p hp
   ·simp at h
  ·simp at h
theorem Ou{k:Nat}{rs:List ResultVar}{S S2:St}(h:SM k rs S=some S2)(hk:K.pins=k):bb K S S2:=by
 obtain⟨e,hp,nx⟩:=S;simp only[SM] at h;split at h
 ·rename_i l hl;split at h
  ·rename_i R hR;split at h
   ·rename_i e2 he;split at h
    ·rename_i h2 r hin;split at h
     ·rename_i hb;simp only[ao8] at hb;simp only[av9] at h;subst h;exact bh (S:=⟨e,hp,nx⟩) R.length (sg R) e2 h2 (tS hb.1) (De (rs:=rs) F2 (GS hl) he).get (bT.get (BY (R0:=R) F2 (fun q i h=>by grind) hin (BX hin))) (by simp_all[tM])
     grind
    grind
   grind
  grind
 grind
def fin(k:Nat)(rs:List ResultVar)(S:St):St:=match SM k rs S with|some S2=>S2|none=>S
theorem Od{k:Nat}{rs:List ResultVar}{S:St}(hk:K.pins=k):bb K S (fin k rs S):=by
 unfold fin;split
 ·grind [Ou]
 ·exact fun m β _ _ r=>⟨m,β,r⟩
def E9(k:Nat)(rs:List ResultVar)(o:Option St):Option St:=match o with|some S=>some (fin k rs S)|none=>none
theorem E8{k:Nat}{rs:List ResultVar}{o:Option St}{S2:St}(h:E9 k rs o=some S2):∃S,o=some S/\fin k rs S=S2:=by
 unfold E9 at h
 grind
end
section
variable{K:dE}{Q:cG}{S S':St}{ops:Array Oper}{rest:List Oper}{t:TT}
theorem AQ{o:Oper}{d:Nat}{f:FuncId}{avs:List V}{k':Nat}{hp':aJ}{dv:V}(hw:aT ops S o true)(hd:o.dst=some d)(hN:Nat.blt d K.N=true)
  (hrun:∀m β w a,cw K m β w a S->∃vs:Array Value,(execOp a.eval o).run K.P w=.ok (.enter f vs) w/\mn m β avs vs)
  (hc:iH K.gl K.P f avs S.nx S.hp dv k' hp') (kk:aD K ops rest Q ⟨(d,dv)::S.env,hp',k'⟩):aD K ops (o::rest) Q S:=by
 intro m β w a r;unfold wpListIn;rw[if_pos (hw.at r)];obtain⟨vs,h1,h2⟩:=hrun m β w a r;refine oP (.inr (lu h1 (fun d e=>by cases e))) ?_;unfold Oper.wp;rw[h1];refine(hc m β w vs r.imm (K.glok.mono r.ext) h2 r.own (fun id b cap hl hb=>(r.priv id b cap hl hb).1) r.inj (fun id x hl hx=>let q:=r.hid id x hl hx;⟨q.lt,q.m,q.ne,q.un⟩) r.nx).mono ?_
 rintro e w' ⟨v,m',β',rfl,hv,g⟩
 simp only[hd]
 have hle:S.nx<=k':=by
  cases hn:S.nx with
  |zero=>grind
  |succ q=>have:=(g.pin q (by omega)).1;omega
 have hβle:β.le β':=by
  intro id l hl;by_cases h:id<S.nx
  ·rw[(g.pin id h).2];exact hl
  ·rw[r.nx id (by omega)] at hl;simp at hl
 have hold:∀b,b<K.w0.heap.size->K.old b->b<w.heap.size/\dQ S.hp β b:=fun b hb ho=>
  ⟨cg9 hb r.size,fun i hl=>⟨fun c hb'=>(r.priv _ _ _ hl hb').2 hb ho,fun hx=>(r.hid _ _ hl hx).old hb ho⟩⟩
 have r2:cw K m' β' w' a ⟨S.env,hp',k'⟩:=by
  constructor
  ·exact g.imm
  ·exact bZ.le_trans r.ext g.le
  ·intro b hb ho;obtain⟨q1,q2⟩:=hold b hb ho;rw[(g.old b q1 q2).1];exact r.mold b hb ho
  ·intro b hb ho;obtain⟨q1,q2⟩:=hold b hb ho;rw[(g.old b q1 q2).2];exact r.frame b hb ho
  ·exact bq8 r.size g.size
  ·exact r.same.trans g.same
  ·exact r.tn
  ·exact r.df.mono g.le
  ·exact fun t=>(r.env t).mono g.le hβle
  ·exact g.own
  ·intro id b cap hl hb;obtain⟨q1,q2⟩:=g.priv id b cap hl hb<;>grind
  ·exact g.inj
  ·intro id x hl hx;obtain⟨q1,q2,q3,q4,q5⟩:=g.hid id x hl hx;exact⟨q1,q2,fun hb0 ho=>q3 (hold x hb0 ho).1 (hold x hb0 ho).2,q4,q5⟩
  ·exact g.nx
  ·intro q hq;obtain⟨p1,p2⟩:=r.pin q hq;have:=g.pin q p1
   grind
 exact kk m' β' w' _ (r2.put hN hv)
def NL(t:TT)(e:cE)(hp:aJ):ResultVar->Option V
 | .tmp x=>qE e x
 | .cell x T=>(match qE e x with
  |some (.ptr id k i o)=>(match rj hp id with
   |some (.arr _ k2 rows)=>(match Nat.beq k k2 with|true=>(match mK rows i with|some row=>EQ t T row o|none=>none)|false=>none)
   |_=>none)
  |_=>none)
theorem Kg(ht:dm K.P t){rv:ResultVar}{v:V}(h:NL t S.env S.hp rv=some v):lL K.P S rv v:=by
 cases rv with
 |tmp x=>exact .tmp (eu h)
 |cell x T=>
  simp only[NL] at h;split at h
  ·rename_i id k i o hx;split at h
   ·rename_i k2 rows ho;split at h
    ·rename_i hk;have hk:=cd8 hk;subst hk;split at h
     ·rename_i row hr;cases hn:dV t T TF.qA with
      |some n=>
       obtain⟨cs,rfl,hc,hd⟩:=sU hn h;exact .agg (K8 ht hn) (eu hx) (gk ho) (fw hr) (mV hc).1 (mV hc).2 hd
      |none=>
       obtain⟨hq,hc,hd⟩:=pW hn h;exact .cell (K7 ht hq) (eu hx) (gk ho) (fw hr) (fw hc) hd
     grind
    grind
   grind
  grind
def Kh(t:TT)(e:cE)(hp:aJ):List ResultVar->Option (List V)
 |[]=>some []
 |r::l=>(match NL t e hp r with|some v=>(match Kh t e hp l with|some q=>some (v::q)|none=>none)|none=>none)
theorem BF(ht:dm K.P t):∀{l:List ResultVar} {ds:List V},Kh t S.env S.hp l=some ds->yR K.P S l ds
 |[],ds,h=>by simp[Kh] at h;subst h;exact .nil
 |r::l,ds,h=>by
  simp only[Kh] at h;split at h
  ·rename_i v hv;split at h
   ·rename_i q hq;simp at h;subst h;exact .cons (Kg ht hv) (BF ht hq)
   ·simp at h
  ·simp at h
abbrev FT:=List (Nat×Func)
def Mj(P:Program)(ft:FT):Prop:=∀p,p∈ft->P.funcs[p.1]? = some p.2/\cP P p.1=true
def Sy(P:Program)(l:List Nat):FT:=l.filterMap fun f=>match P.funcs[f]? with|some g=>some (f,g)|none=>none
theorem QL{P:Program}{ft:FT}(l:List Nat)(h:ft=Sy P l)(hB:l.all (cP P)=true):Mj P ft:=fun p hp=>by
 rw[h] at hp;obtain⟨f,hf,e⟩:=List.mem_filterMap.1 hp<;>grind
abbrev XT:=List (Nat×(List V->Option V))
def OH(gl:Gl)(P:Program)(xt:XT):Prop:=∀p,p∈xt->cP P p.1=true/\∀avs v,p.2 avs=some v->ek gl P p.1 avs v
def Qo(t:TT)(N:Nat)(ops:Array Oper)(e:cE)(o:Oper):Option (Nat×Nat×List V):=
 match rR N ops e o with
 |some d=>(match Q5 t e o.op with|some (f,avs)=>some (d,f,avs)|none=>none)
 |none=>none
def Bm(t:TT):List Oper->Nat
 |[]=>0
 |o::l=>(match o.op with | .alloc _=>Bm t l+1 | .box _ _=>Bm t l+1 | .makeMap _ _=>Bm t l+1 | .buildSlice _ _ _=>Bm t l+1 | .makeSlice _ _ _=>Bm t l+1 | .call c=>(match c.callee with | .value x=>(match x with | .func f=>(match dV t f TF.qR with|some n=>Bm t l+n|none=>Bm t l+12)|_=>Bm t l+12) | .invoke _ _=>Bm t l+12 | .builtin .append=>Bm t l+2|_=>Bm t l)|_=>Bm t l)
def zm(ft:FT)(xt:XT)(t:TT)(mt:List MT):Nat->Nat->List It->St->Option St
 |0,_,_,_=>none
 |_+1,_,[],S=>some S
 |n+1,N,x::s,⟨e,hp,nx⟩=>
  match x with
  | .c .ret=>some ⟨e,hp,nx⟩
  | .c (.loop c)=>zm ft xt t mt n N (.c c::.c (.loop c)::s) ⟨e,hp,nx⟩
  | .c (.region _ ops true)=>
   (match PP (fun f avs=>match lk xt f with
     |some g=>g avs
     |none=>(match lk ft f with
      |some fn=>(match fn.body with
       |some c=>(match Nat.ble avs.length fn.ntmps,E9 0 fn.results.toList (zm ft xt t mt n fn.ntmps [.c c] ⟨gL 0 avs,[],0⟩) with
        |true,some ⟨e1,hp1,_⟩=>(match Kh t e1 hp1 fn.results.toList with
         |some ds=>(match H3 (eS ds) with|true=>some (eS ds)|false=>none)
         |none=>none)
        |_,_=>none)
       |none=>none)
      |none=>none)) (fun f avs hp k=>match lk ft f with
      |some fn=>(match fn.body with
       |some c=>(match Nat.ble avs.length fn.ntmps,E9 k fn.results.toList (zm ft xt t mt n fn.ntmps [.c c] ⟨gL 0 avs,hp,k⟩) with
        |true,some ⟨e1,hp1,k1⟩=>(match Kh t e1 hp1 fn.results.toList with
         |some ds=>some (eS ds,hp1,k1)
         |none=>none)
        |_,_=>none)
       |none=>none)
      |none=>none) t mt N ops ops.toList nx e (GZ nx (Bm t ops.toList) hp) (nx+Bm t ops.toList) with
   |some (ds,e',hp')=>(match rY ops.toList ds with|true=>zm ft xt t mt n N s ⟨e',Dx nx (Bm t ops.toList) hp',nx+Bm t ops.toList⟩|false=>none)
   |none=>none)
  | .o ops (o::l)=>
   (match one t N ops o ⟨e,hp,nx⟩ with
   |some ⟨e',hp',nx'⟩=>zm ft xt t mt n N (.o ops l::s) ⟨Gk e',Gj hp',nx'⟩
   |none=>(match Qo t N ops e o with
    |some (d,f,avs)=>(match lk xt f with
     |some g=>(match g avs with|some v=>(match qs H3 avs with|true=>zm ft xt t mt n N (.o ops l::s) ⟨tH d v e,hp,nx⟩|false=>none)|none=>none)
     |none=>(match lk ft f with
      |some fn=>(match fn.body with
       |some c=>(match Nat.ble avs.length fn.ntmps,E9 nx fn.results.toList (zm ft xt t mt n fn.ntmps [.c c] ⟨gL 0 avs,hp,nx⟩) with
        |true,some ⟨e1,hp1,nx1⟩=>(match Kh t e1 hp1 fn.results.toList with
         |some ds=>zm ft xt t mt n N (.o ops l::s) ⟨tH d (eS ds) e,hp1,nx1⟩
         |none=>none)
        |_,_=>none)
       |none=>none)
      |none=>none))
    |none=>(match rR N ops e o with
     |some d=>(match oF t mt e hp nx o.op with|some (v,u,q)=>zm ft xt t mt n N (.o ops l::s) ⟨tH d v e,rL u hp,nx+q⟩|none=>(match o.guard,SV t d e hp nx o.op with|none,some (ue,uh)=>zm ft xt t mt n N (.o ops l::s) ⟨wc ue e,rL uh hp,nx+2⟩|_,_=>none))
     |none=>(match o.dst,wt ops e o.guard with
      |none,some true=>(match RV t mt e hp o.op with|some (id,ob)=>zm ft xt t mt n N (.o ops l::s) ⟨e,sd id ob hp,nx⟩|none=>none)
      |_,_=>none))))
  |x=>(match GN t N (x::s) ⟨e,hp,nx⟩ with|some (s',S')=>zm ft xt t mt n N s' S'|none=>none)
theorem uo{d:Nat}{v:V}{e:cE}{hp:aJ}{nx:Nat}:bb K ⟨(d,v)::e,hp,nx⟩ ⟨tH d v e,hp,nx⟩:=fun m β _ _ r=>⟨m,β,r.congr (mR d v e) (fun _=>rfl) rfl⟩
theorem B9{id:Nat}{ob:Ob}{e:cE}{hp:aJ}{nx:Nat}:bb K ⟨e,(id,ob)::hp,nx⟩ ⟨e,sd id ob hp,nx⟩:=fun m β _ _ r=>⟨m,β,r.congr (fun _=>rfl) (oj id ob hp) rfl⟩
theorem B6{d:Nat}{v:V}{e:cE}{u hp:aJ}{nx:Nat}:bb K ⟨(d,v)::e,u++hp,nx⟩ ⟨tH d v e,rL u hp,nx⟩:=fun m β _ _ r=>⟨m,β,r.congr (mR d v e) (lB u hp) rfl⟩
theorem As{ue e:cE}{u hp:aJ}{nx:Nat}:bb K ⟨ue++e,u++hp,nx⟩ ⟨wc ue e,rL u hp,nx⟩:=fun m β _ _ r=>⟨m,β,r.congr (rm ue e) (lB u hp) rfl⟩
theorem Ap{S1 S2 S3:St}(h:bb K S1 S2)(h':bb K S2 S3):bb K S1 S3:=bb.trans h h'
theorem lF:bb K S S:=fun m β _ _ r=>⟨m,β,r⟩
theorem Sj{i:Nat}{s:List It}(h:WG K Q s S):WG K Q (.b i::s) S:=h
theorem On{gl:Gl}{P:Program}{ft:FT}{xt:XT}{mt:List MT}(hft:Mj P ft)(hxt:OH gl P xt)(ht:dm P t)(hmt:uY P mt)(hm:P.follows .mixedOrders=true):
  ∀(n:Nat) (K:dE),K.P=P->K.gl=gl->∀(s:List It) (S S':St) (Q:cG),zm ft xt t mt n K.N s S=some S'->(∀S0,bb K S0 S'->∀e,(e=.ret\/e=.normal)->Q e S0)->∀S0,bb K S0 S->WG K Q s S0:=by
 intro n
 induction n with
 |zero=>simp_all[zm]
 |succ n ih=>
  -- a call by its text
  have call:∀(f:Nat) (fn:Func) (c:Code) (avs:List V) (hp hp1:aJ) (nx nx1:Nat) (e1:cE) (ds:List V),P.funcs[f]? = some fn->fn.body=some c->Nat.ble avs.length fn.ntmps=true->
    E9 nx fn.results.toList (zm ft xt t mt n fn.ntmps [.c c] ⟨gL 0 avs,hp,nx⟩)=some ⟨e1,hp1,nx1⟩->Kh t e1 hp1 fn.results.toList=some ds->iH gl P f avs nx hp (eS ds) nx1 hp1:=by
   intro f fn c avs hp hp1 nx nx1 e1 ds q1 hb hle hrun hds;refine du (l:=fn.results.toList) q1 hb Y (by simp) hle _ Y (fun w0 m0 β0 hg=>?_);obtain⟨S9,hr9,hf9⟩:=E8 hrun;refine ih (rc gl P fn.ntmps nx hp w0 m0 β0 hg) Y Y [.c c] _ _ _ hr9 ?_ _ lF;exact fun S0 hg e he=>⟨he,e1,bb.trans hg (by grind [Od]),BF (S:=⟨e1,hp1,nx1⟩) ht hds⟩
  intro K hP hgl s S S' Q h hQ S0 hg0;cases s with
  |nil=>simp only[zm,av9] at h;subst h;exact hQ _ hg0 _ (.inr Y)
  |cons x s=>
   obtain⟨e,hp,nx⟩:=S;have ha:Ag e ⟨e,hp,nx⟩:=yP (S:=⟨e,hp,nx⟩);have htK:dm K.P t:=by rw[hP];exact ht
   have hmK:uY K.P mt:=by rw[hP];exact hmt
   simp only[zm] at h;split at h
   ·simp only[av9] at h;subst h;exact yz (jj (hQ _ hg0 _ (.inl Y)))
   ·exact aP hg0 (AL (ih K hP hgl _ _ _ _ h hQ _ lF))
   ·split at h
    ·rename_i ds e' hp' hdr;split at h
     ·rename_i hok;refine aP hg0 (Oy ?_ ?_ htK hmK (by grind) hdr hok (fun S1 hg1=>ih K hP hgl _ _ _ _ h hQ _ (Ap hg1 (Ca (Io _ _ _)))))
      ·intro f avs hp k v hp' k' hv;split at hv
       ·rename_i fn hfn;obtain⟨q1,q2⟩:=hft _ (mJ hfn)<;>grind
       grind
      intro f avs v hv;split at hv
      ·rename_i g hg;obtain⟨q1,q2⟩:=hxt _ (mJ hg)<;>simp_all
      ·split at hv
       ·rename_i fn hfn;obtain⟨q1,q2⟩:=hft _ (mJ hfn)<;>grind [zZ]
       grind
     grind
    grind
   ·rename_i ops o l;refine aU hg0 ?_;split at h
    ·rename_i e' hp' nx' h1;exact Hf htK h1 (ih K hP hgl _ _ _ _ h hQ _ B5)
    ·split at h
     ·rename_i d f avs hop;unfold Qo at hop;split at hop
      ·rename_i d' hd;split at hop
       ·rename_i hc;simp only[av9,Prod.mk.injEq] at hop;obtain⟨rfl,rfl,rfl⟩:=hop;obtain⟨w1,w2,w3⟩:=lI ha hd;split at h
        ·rename_i g hg;split at h
         ·rename_i v hv;obtain⟨q1,q2⟩:=hxt _ (mJ hg);split at h
          ·rename_i him
           exact jr w1 w2 w3 (fun m β w a r=>by
            obtain⟨vs,e1,e2⟩:=qg htK ha hc (by grind) m β w a r;exact⟨vs,e1,⟨e2.len,fun i c v a b=>lA (lK him c (aw9 a)) (e2.at' i c v a b)⟩⟩) (by grind) (ih K hP hgl _ _ _ _ h hQ _ uo)
          grind
         grind
        ·split at h
         ·rename_i fn hfn;obtain⟨q1,q2⟩:=hft _ (mJ hfn);split at h
          ·rename_i c hb;split at h
           ·rename_i e1 hp1 nx1 hle hrun;split at h
            ·rename_i ds hds;exact AQ w1 w2 w3 (qg htK ha hc (by grind)) (by grind) (ih K hP hgl _ _ _ _ h hQ _ uo)
            grind
           grind
          grind
         grind
       grind
      grind
     ·split at h
      ·rename_i d hd;obtain⟨w1,w2,w3⟩:=lI ha hd;split at h
       ·rename_i v u q h1;obtain⟨dst,op,ty,pos,after,g⟩:=o;simp only at w2;subst w2;exact C8 htK hmK ha (SW (S:=⟨e,hp,nx⟩)) Y h1 w1 w3 (ih K hP hgl _ _ _ _ h hQ _ B6)
       ·split at h
        ·rename_i hgd h1;obtain⟨dst,op,ty,pos,after,g⟩:=o;simp only at w2;subst w2;exact OE htK h1 hgd w3 (ih K hP hgl _ _ _ _ h hQ _ As)
        grind
      ·split at h
       ·rename_i hdst hwt;have hw:=jL ha hwt;split at h
        ·rename_i id ob h1;obtain⟨dst,op,ty,pos,after,g⟩:=o;simp only at hdst;subst hdst;exact FV htK hmK ha (SW (S:=⟨e,hp,nx⟩)) h1 hw (ih K hP hgl _ _ _ _ h hQ _ B9)
        grind
       grind
   ·rename_i x4 n1 n2 n3 n4;split at h
    ·rename_i s' S2 h1;have k:=GM (Q:=Q) htK h1 (ih K hP hgl _ _ _ _ h hQ _ lF);cases x with
     |c x=>exact aP hg0 k
     |o ops l=>exact aU hg0 k
     |b i=>grind [GN,Sj]
     |j J=>simp[GN] at h1
    grind
def SG(ft:FT)(xt:XT)(t:TT)(mt:List MT)(n f:Nat)(avs:List V):Option V:=
 match lk ft f with
 |some fn=>(match fn.body with
  |some c=>(match Nat.ble avs.length fn.ntmps,zm ft xt t mt n fn.ntmps [.c c] ⟨gL 0 avs,[],0⟩ with
   |true,some ⟨e1,hp1,_⟩=>(match Kh t e1 hp1 fn.results.toList with
    |some ds=>(match H3 (eS ds) with|true=>some (eS ds)|false=>none)
    |none=>none)
   |_,_=>none)
  |none=>none)
 |none=>none
theorem Oo{gl:Gl}{P:Program}{ft:FT}{xt:XT}{mt:List MT}(hft:Mj P ft)(hxt:OH gl P xt)(ht:dm P t)(hmt:uY P mt)(hm:P.follows .mixedOrders=true){n f:Nat}{avs:List V}{v:V}
  (h:SG ft xt t mt n f avs=some v):ek gl P f avs v:=by
 unfold SG at h;split at h
 ·rename_i fn hfn;obtain⟨q1,q2⟩:=hft _ (mJ hfn);split at h
  ·rename_i c hb;split at h
   ·rename_i e1 hp1 nx1 hle hrun;split at h
    ·rename_i ds hds;split at h
     ·rename_i him;simp only[av9] at h;subst h;refine zZ (k':=nx1) (hp':=hp1) ?_ him;refine du (l:=fn.results.toList) q1 hb Y (by simp) hle _ Y (fun w0 m0 β0 hg=>?_);refine On hft hxt ht hmt hm n (rc gl P fn.ntmps 0 [] w0 m0 β0 hg) Y Y [.c c] _ _ _ hrun ?_ _ lF;exact fun S0 hg e he=>⟨he,e1,hg,BF (S:=⟨e1,hp1,nx1⟩) ht hds⟩
     grind
    grind
   grind
  grind
 grind
end
end Go.Pv
namespace Go.Proofs.YtelmfadihfcgnaaGreatDoor
open Go Go.Pv
set_option maxRecDepth 100000
noncomputable def QZ:FT:=[(11,Tryz.f11),(19,Tryz.f19),(30,Tryz.f30),(31,Tryz.f31),(32,Tryz.f32),(42,Tryz.f42),(43,Tryz.f43),(44,Tryz.f44),(50,Tryz.f50),(54,Tryz.f54),(60,Tryz.f60),(61,Tryz.f61),(62,Tryz.f62),(72,Tryz.f72),(74,Tryz.f74),(86,Tryz.f86),(87,Tryz.f87),(88,Tryz.f88),(100,Tryz.f100),(101,Tryz.f101),(102,Tryz.f102),(103,Tryz.f103),(104,Tryz.f104),(105,Tryz.f105),(106,Tryz.f106),(113,Tryz.f113),(116,Tryz.f116),(117,Tryz.f117),(118,Tryz.f118),(121,Tryz.f121),(128,Tryz.f128),(129,Tryz.f129),(130,Tryz.f130),(135,Tryz.f135),(136,Tryz.f136),(137,Tryz.f137),(138,Tryz.f138),(139,Tryz.f139),(140,Tryz.f140),(141,Tryz.f141),(142,Tryz.f142),(143,Tryz.f143),(144,Tryz.f144),(149,Tryz.f149),(150,Tryz.f150),(151,Tryz.f151),(162,Tryz.f162),(163,Tryz.f163),(164,Tryz.f164),(165,Tryz.f165),(190,Tryz.f190),(191,Tryz.f191),(192,Tryz.f192),(193,Tryz.f193),(194,Tryz.f194),(195,Tryz.f195),(196,Tryz.f196),(197,Tryz.f197),(207,Tryz.f207),(214,Tryz.f214),(224,Tryz.f224),(225,Tryz.f225),(226,Tryz.f226),(227,Tryz.f227),(234,Tryz.f234),(237,Tryz.f237),(239,Tryz.f239),(240,Tryz.f240),(241,Tryz.f241),(242,Tryz.f242),(243,Tryz.f243),(244,Tryz.f244),(245,Tryz.f245),(247,Tryz.f247),(248,Tryz.f248),(249,Tryz.f249),(250,Tryz.f250),(251,Tryz.f251),(252,Tryz.f252),(253,Tryz.f253),(254,Tryz.f254),(255,Tryz.f255),(256,Tryz.f256),(257,Tryz.f257),(258,Tryz.f258),(259,Tryz.f259),(260,Tryz.f260),(261,Tryz.f261),(262,Tryz.f262),(263,Tryz.f263),(264,Tryz.f264),(265,Tryz.f265),(281,Tryz.f281),(282,Tryz.f282),(283,Tryz.f283),(284,Tryz.f284),(285,Tryz.f285),(286,Tryz.f286),(287,Tryz.f287),(288,Tryz.f288),(289,Tryz.f289),(290,Tryz.f290),(291,Tryz.f291)]
theorem KK:Mj Tryz.prog QZ:=QL [11,19,30,31,32,42,43,44,50,54,60,61,62,72,74,86,87,88,100,101,102,103,104,105,106,113,116,117,118,121,128,129,130,135,136,137,138,139,140,141,142,143,144,149,150,151,162,163,164,165,190,191,192,193,194,195,196,197,207,214,224,225,226,227,234,237,239,240,241,242,243,244,245,247,248,249,250,251,252,253,254,255,256,257,258,259,260,261,262,263,264,265,281,282,283,284,285,286,287,288,289,290,291] (by kernel_rfl) (by kernel_rfl)
def QY:TT:=[(2,[.I .i64,.U]),(3,[.C,.S 1,.Z 1 [.int .i64 0],.I .i64,.U]),(4,[.S 1,.C]),(5,[.Z 1 [.int .u8 0],.I .u8,.U,.C,.S 1]),(9,[.Str,.C,.S 1,.Z 1 [.string ⟨#[]⟩],.U,.Cn]),(22,[.C,.El 9 1 16,.Sn,.Sl 1,.S 1]),(23,[.C,.Sn,.Sl 6,.El 25 6 88,.S 1]),(25,[.S 6,.A 6,.F 5 5,.Z 6 [.int .i64 0,.string ⟨#[]⟩,.slice none 0 0,.int .i64 0,.int .i64 0,.slice none 0 0],.F 0 0,.F 1 1,.F 2 2,.F 3 3,.F 4 4,.Pl [(0,1),(1,1),(2,1),(3,1),(4,1),(5,1)]]),(26,[.C,.Sn,.Sl 2]),(27,[.El 41 2 24,.C,.Sn,.Sl 2]),(29,[.Z 4 [.string ⟨#[]⟩,.string ⟨#[]⟩,.slice none 0 0,.slice none 0 0],.Pl [(0,1),(1,1),(2,1),(3,1)],.S 4,.F 0 0,.F 1 1,.F 2 2,.F 3 3,.A 4]),(30,[.C,.S 1]),(39,[.A 2,.Z 2 [.string ⟨#[]⟩,.string ⟨#[]⟩],.S 2,.F 0 0,.F 1 1]),(41,[.Z 2 [.string ⟨#[]⟩,.int .i64 0],.Pl [(0,1),(1,1)],.A 2,.S 2,.F 0 0,.F 1 1]),(46,[.C,.El 58 9 128,.Sn,.S 1,.Sl 9]),(47,[.C,.El 185 6 72,.Sn,.S 1,.Sl 6]),(49,[.Z 2 [.slice none 0 0,.slice none 0 0],.S 2,.A 2,.Pl [(0,1),(1,1)],.F 0 0,.F 1 1]),(50,[.El 29 4 80,.Sn,.Sl 4]),(51,[.C,.Sn,.Sl 1,.El 3 1 8,.S 1]),(54,[.Sn,.Sl 4,.El 61 4 32]),(58,[.Z 9 [.string ⟨#[]⟩,.string ⟨#[]⟩,.int .i64 0,.string ⟨#[]⟩,.slice none 0 0,.int .i64 0,.int .i64 0,.slice none 0 0,.int .i64 0],.A 9,.S 9,.F 0 0,.F 1 1,.F 2 2,.F 3 8,.Pl [(0,1),(1,1),(2,6),(8,1)]]),(61,[.F 3 3,.Z 4 [.int .i64 0,.int .i64 0,.int .i64 0,.int .i64 0],.Pl [(0,1),(1,1),(2,1),(3,1)],.S 4,.F 2 2,.A 4]),(75,[.Z 1 [.nilIface],.C]),(91,[.C]),(92,[.C,.Mn]),(94,[.A 2,.Z 2 [.map none,.map none],.Pl [(0,1),(1,1)],.S 2,.F 0 0,.F 1 1]),(98,[.Z 4 [.bool false,.bool false,.string ⟨#[]⟩,.int .i64 0],.S 4,.F 0 0,.F 2 2,.A 4,.F 1 1,.F 3 3]),(109,[.El 75 1 16,.Sn,.Sl 1,.C]),(115,[.Sn,.Sl 3,.El 197 3 40]),(147,[.Z 2 [.string ⟨#[]⟩,.slice none 0 0],.Pl [(0,1),(1,1)],.Cn,.S 2,.F 0 0,.F 1 1,.M "provender/policy.holds" 282]),(148,[.Z 2 [.string ⟨#[]⟩,.slice none 0 0],.Pl [(0,1),(1,1)],.Cn,.S 2,.F 0 0,.F 1 1,.M "provender/policy.holds" 283]),(150,[.Z 1 [.string ⟨#[]⟩],.Pl [(0,1)],.Cn,.S 1,.F 0 0,.M "provender/policy.holds" 285]),(152,[.Z 3 [.string ⟨#[]⟩,.int .i64 0,.int .i64 0],.Pl [(0,1),(1,1),(2,1)],.Cn,.S 3,.F 0 0,.F 1 1,.F 2 2,.M "provender/policy.holds" 286]),(154,[.Z 1 [.nilIface],.Pl [(0,1)],.Cn,.S 1,.F 0 0,.M "provender/policy.holds" 288]),(156,[.Z 1 [.slice none 0 0],.Pl [(0,1)],.Cn,.S 1,.F 0 0,.M "provender/policy.holds" 289]),(157,[.Z 1 [.slice none 0 0],.Pl [(0,1)],.Cn,.S 1,.F 0 0,.M "provender/policy.holds" 290]),(159,[.Z 0 [],.Pl [],.Cn,.S 0,.M "provender/policy.holds" 291]),(177,[.S 1,.C]),(179,[.F 0 0,.F 2 2,.Z 3 [.int .i64 0,.string ⟨#[]⟩,.int .i64 0],.Pl [(0,1),(1,1),(2,1)],.S 3,.F 1 1,.A 3]),(181,[.Z 7 [.string ⟨#[]⟩,.int .i64 0,.int .i64 0,.string ⟨#[]⟩,.int .i64 0,.int .i64 0,.int .i64 0],.Pl [(0,1),(1,1),(2,3),(5,1),(6,1)],.S 7,.F 2 2,.F 4 6,.F 3 5,.F 1 1,.F 0 0]),(185,[.Z 6 [.string ⟨#[]⟩,.string ⟨#[]⟩,.int .i64 0,.int .i64 0,.string ⟨#[]⟩,.int .i64 0],.A 6,.S 6,.F 2 2,.F 3 3,.F 5 5,.F 0 0,.Pl [(0,1),(1,1),(2,1),(3,1),(4,1),(5,1)],.F 1 1,.F 4 4]),(194,[.I .u64,.U]),(197,[.A 3,.Z 3 [.int .i64 0,.int .i64 0,.slice none 0 0],.S 3,.F 0 0,.F 1 1,.F 2 2,.Pl [(0,1),(1,1),(2,1)]]),(207,[.Z 4 [.bool false,.bool false,.bool false,.int .i64 0],.S 4,.F 0 0,.F 1 1,.F 2 2,.Pl [(0,1),(1,1),(2,1),(3,1)],.F 3 3]),(208,[.AA 9 4 207,.A 36,.Z 36 [.bool false,.bool false,.bool false,.int .i64 0,.bool false,.bool false,.bool false,.int .i64 0,.bool false,.bool false,.bool false,.int .i64 0,.bool false,.bool false,.bool false,.int .i64 0,.bool false,.bool false,.bool false,.int .i64 0,.bool false,.bool false,.bool false,.int .i64 0,.bool false,.bool false,.bool false,.int .i64 0,.bool false,.bool false,.bool false,.int .i64 0,.bool false,.bool false,.bool false,.int .i64 0],.Arr 9 4,.S 36]),(237,[.I .u32,.U]),(239,[.U,.I .u64,.C]),(257,[.U,.El 5 1 1,.Sn,.Sl 1]),(261,[.C]),(289,[.AC 6 9,.A 6,.Z 6 [.string ⟨#[]⟩,.string ⟨#[]⟩,.string ⟨#[]⟩,.string ⟨#[]⟩,.string ⟨#[]⟩,.string ⟨#[]⟩],.Arr 6 1,.S 6]),(291,[.Cn]),(294,[.Cn]),(303,[.Z 3 [.string ⟨#[]⟩,.string ⟨#[]⟩,.nilIface],.Pl [(0,1),(1,1),(2,1)],.S 3]),(308,[.Cn]),(310,[.Z 1 [.string ⟨#[]⟩],.Pl [(0,1)],.S 1]),(312,[.Z 24 [.int .u8 0,.int .u8 0,.int .u8 0,.int .u8 0,.int .u8 0,.int .u8 0,.int .u8 0,.int .u8 0,.int .u8 0,.int .u8 0,.int .u8 0,.int .u8 0,.int .u8 0,.int .u8 0,.int .u8 0,.int .u8 0,.int .u8 0,.int .u8 0,.int .u8 0,.int .u8 0,.int .u8 0,.int .u8 0,.int .u8 0,.int .u8 0],.Arr 24 1]),(317,[.Arr 20 1]),(318,[.Z 65 [.int .u8 0,.int .u8 0,.int .u8 0,.int .u8 0,.int .u8 0,.int .u8 0,.int .u8 0,.int .u8 0,.int .u8 0,.int .u8 0,.int .u8 0,.int .u8 0,.int .u8 0,.int .u8 0,.int .u8 0,.int .u8 0,.int .u8 0,.int .u8 0,.int .u8 0,.int .u8 0,.int .u8 0,.int .u8 0,.int .u8 0,.int .u8 0,.int .u8 0,.int .u8 0,.int .u8 0,.int .u8 0,.int .u8 0,.int .u8 0,.int .u8 0,.int .u8 0,.int .u8 0,.int .u8 0,.int .u8 0,.int .u8 0,.int .u8 0,.int .u8 0,.int .u8 0,.int .u8 0,.int .u8 0,.int .u8 0,.int .u8 0,.int .u8 0,.int .u8 0,.int .u8 0,.int .u8 0,.int .u8 0,.int .u8 0,.int .u8 0,.int .u8 0,.int .u8 0,.int .u8 0,.int .u8 0,.int .u8 0,.int .u8 0,.int .u8 0,.int .u8 0,.int .u8 0,.int .u8 0,.int .u8 0,.int .u8 0,.int .u8 0,.int .u8 0,.int .u8 0],.Arr 65 1]),(319,[.Arr 32 1]),(320,[.Arr 64 1])]
theorem KI:dm Tryz.prog QY:=P6 (by kernel_rfl) (by kernel_rfl) ⟨⟨fun v args w=>by kernel_rfl,fun v w=>by kernel_rfl⟩,⟨fun v args w=>by kernel_rfl,fun v w=>by kernel_rfl⟩,⟨fun v args w=>by kernel_rfl,fun v w=>by kernel_rfl⟩,⟨fun v args w=>by kernel_rfl,fun v w=>by kernel_rfl⟩,⟨fun v args w=>by kernel_rfl,fun v w=>by kernel_rfl⟩,⟨fun v args w=>by kernel_rfl,fun v w=>by kernel_rfl⟩,⟨fun v args w=>by kernel_rfl,fun v w=>by kernel_rfl⟩,⟨fun v args w=>by kernel_rfl,fun v w=>by kernel_rfl⟩,trivial⟩
def Om:List MT:=[⟨91,9,98,true,.i64,.agg [.con (.bool false),.con (.bool false),.con (.string ⟨#[]⟩),.con (.int .i64 0)]⟩,⟨92,9,4,true,.i64,.con (.bool false)⟩]
theorem KJ:uY Tryz.prog Om:=by
 intro p hp;simp only[Om,aq9,List.not_mem_nil,or_false] at hp;rcases hp with rfl|rfl
 ·exact⟨by kernel_rfl,ub (by kernel_rfl),_,by kernel_rfl,fun _=>(H0 [Value.bool false,Value.bool false,Value.string ⟨#[]⟩,Value.int .i64 0])⟩
 ·exact⟨by kernel_rfl,ub (by kernel_rfl),_,by kernel_rfl,fun _=>(.con _)⟩
end Go.Proofs.YtelmfadihfcgnaaGreatDoor
