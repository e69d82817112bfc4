/- Part of the proof: EXB, EA, EXC, EC, EW, L9T. -/
import Derived.Test.YtelmfadihfcgnaaGreatDoorEEX
import Derived.Test.YtelmfadihfcgnaaGreatDoorProg
import Derived.KernelRfl
set_option linter.unusedSimpArgs false
set_option linter.unusedVariables false
namespace Go.Pv
open Go
section
variable{K:de}{Q:cp}{S S':St}{ops:Array Oper}{rest:List Oper}{t:TT}
def zL(f:V->Option V):List V->Option (List V)
 |[]=>some []
 |x::l=>(match f x with|some y=>(match zL f l with|some r=>some (y::r)|none=>none)|none=>none)
def pr(f:Nat->Option Nat):Nat->V->Option V
 |0,_=>none
 |n+1,v=>(match v with
  | .con v=>some (.con v)
  | .agg cs=>(match zL (pr f n) cs with|some r=>some (.agg r)|none=>none)
  | .tup cs=>(match zL (pr f n) cs with|some r=>some (.tup r)|none=>none)
  | .fn g a b=>(match zL (pr f n) a,zL (pr f n) b with|some r,some q=>some (.fn g r q)|_,_=>none)
  | .ptr id k i o=>(match f id with|some j=>some (.ptr j k i o)|none=>none)
  | .own id l=>(match f id with|some j=>some (.own j l)|none=>none)
  | .map id=>(match f id with|some j=>some (.map j)|none=>none)
  |_=>none)
theorem zK{f:V->Option V}:∀{l r:List V},zL f l=some r->r.length=l.length/\∀(i:Nat) c c',l[i]? = some c->r[i]? = some c'->f c=some c'
 |[],r,h=>by simp_all[zL]
 |x::l,r,h=>by
  simp only[zL] at h;split at h
  ·rename_i y hy;split at h
   ·rename_i q hq;simp at h;subst h;obtain⟨h1,h2⟩:=zK hq;refine⟨by simp[h1],fun i c c' a b=>?_⟩;cases i with
    |zero=>simp at a b;subst a;subst b;exact hy
    |succ i=>exact h2 i c c' (by simpa using a) (by simpa using b)
   ·simp at h
  ·simp at h
theorem EY{f:Nat->Option Nat}{m:bF}{β β':bd}(hf:∀i j,f i=some j->β' j=β i):∀{n:Nat} {v v':V} {x:Value},pr f n v=some v'->bw m β v x->bw m β' v' x
 |0,v,v',x,h=>by simp[pr] at h
 |n+1,v,v',x,h=>by
  intro hv
  have lst:∀{cs r:List V} {vs:Array Value},zL (pr f n) cs=some r->cs.length=vs.size->(∀(i:Nat) c v,cs[i]? = some c->vs[i]? = some v->bw m β c v)->r.length=vs.size/\∀(i:Nat) c v,r[i]? = some c->vs[i]? = some v->bw m β' c v:=by
   intro cs r vs hr hl hh;obtain⟨a1,a2⟩:=zK hr;refine⟨a1.trans hl,fun i c v hc hx=>?_⟩;have hi:i<cs.length:=by rw[<-a1];exact(bb9.1 hc).1
   exact EY hf (a2 i _ _ (ax8 hi) hc) (hh i _ v (ax8 hi) hx)
  cases v with
  |con c=>simp[pr] at h;subst h;rw[hv.of_con];exact .imm (.con _)
  |agg cs=>
   simp only[pr] at h;split at h
   ·rename_i r hr;simp at h;subst h;obtain⟨vs,rfl,h2,h3⟩:=ry hv;obtain⟨b1,b2⟩:=lst hr h2 h3;exact .agg b1 b2
   ·simp at h
  |tup cs=>
   simp only[pr] at h;split at h
   ·rename_i r hr;simp at h;subst h;cases hv with
    |imm hv=>cases hv with|tup hl hh=>obtain⟨b1,b2⟩:=lst hr hl (fun i c v a b=>.imm (hh i c v a b));exact .tup b1 b2
    |tup hl hh=>obtain⟨b1,b2⟩:=lst hr hl hh;exact .tup b1 b2
   ·simp at h
  |fn g a b=>
   simp only[pr] at h;split at h
   ·rename_i r q hr hq;simp at h;subst h;cases hv with
    |imm hv=>cases hv with|fn hl hl' h1 h2=>obtain⟨b1,b2⟩:=lst hr hl (fun i c v a b=>.imm (h1 i c v a b));obtain⟨c1,c2⟩:=lst hq hl' (fun i c v a b=>.imm (h2 i c v a b));exact .fn b1 c1 b2 c2
    |fn hl hl' h1 h2=>obtain⟨b1,b2⟩:=lst hr hl h1;obtain⟨c1,c2⟩:=lst hq hl' h2;exact .fn b1 c1 b2 c2
   ·simp at h
  |ptr id k i o=>
   simp only[pr] at h;split at h
   ·rename_i j hj;simp at h;subst h;cases hv with
    |imm hv=>cases hv
    |ptr hb=>exact .ptr (by rw[hf _ _ hj];exact hb)
   ·simp at h
  |own id l=>
   simp only[pr] at h;split at h
   ·rename_i j hj;simp at h;subst h;cases hv with
    |imm hv=>cases hv
    |ownNil hb=>exact .ownNil (by rw[hf _ _ hj];exact hb)
    |own hb=>exact .own (by rw[hf _ _ hj];exact hb)
   ·simp at h
  |map id=>
   simp only[pr] at h;split at h
   ·rename_i j hj;simp at h;subst h;cases hv with
    |imm hv=>cases hv
    |map hb=>exact .map (by rw[hf _ _ hj];exact hb)
   ·simp at h
  |_=>simp[pr] at h
theorem EZ{f:Nat->Option Nat}{n:Nat}{v v':V}(h:pr f n v=some v'):v.deep=false:=by
 cases n with
 |zero=>simp[pr] at h
 |succ n=>cases v<;>first|rfl|simp[pr] at h
def M4(f:Nat->Option Nat):List (List V)->Option (List (List V))
 |[]=>some []
 |x::l=>(match zL (pr f 12) x with|some y=>(match M4 f l with|some r=>some (y::r)|none=>none)|none=>none)
def M5(f:Nat->Option Nat):List (Value×V)->Option (List (Value×V))
 |[]=>some []
 |(k,x)::l=>(match pr f 12 x with|some y=>(match M5 f l with|some r=>some ((k,y)::r)|none=>none)|none=>none)
def HL(f:Nat->Option Nat):Ob->Option Ob
 | .dead=>some .dead
 | .arr e k rows=>(match M4 f rows with|some r=>some (.arr e k r)|none=>none)
 | .map es=>(match M5 f es with|some r=>some (.map r)|none=>none)
 | .res=>none
 | .iter _ _=>none
 | .bld _ _ _ _=>none
def uc(Yo:Hy)(f:Nat->Option Nat):Prop:=∀m β m' β',Yo m β m' β'->m'=m/\∀i j,f i=some j->β' j=β i
theorem rj{Yo:Hy}{f:Nat->Option Nat}(hY:uc Yo f){n:Nat}{v v':V}(h:pr f n v=some v'):ai Yo v' v:=fun m β m' β' x hy hx=>by
 obtain⟨rfl,hf⟩:=hY _ _ _ _ hy
 grind [EY]
theorem xV{Yo:Hy}{f:Nat->Option Nat}(hY:uc Yo f){n:Nat}{v v':V}(h:pr f n v=some v'):iU Yo v' v:=.sub (rj hY h) (EZ h)
theorem E0{f:Nat->Option Nat}:∀{l r:List (List V)},M4 f l=some r->r.length=l.length/\∀(i:Nat) c c',l[i]? = some c->r[i]? = some c'->zL (pr f 12) c=some c'
 |[],r,h=>by simp_all[M4]
 |x::l,r,h=>by
  simp only[M4] at h;split at h
  ·rename_i y hy;split at h
   ·rename_i q hq;simp at h;subst h;obtain⟨h1,h2⟩:=E0 hq;refine⟨by simp[h1],fun i c c' a b=>?_⟩;cases i with
    |zero=>simp at a b;subst a;subst b;exact hy
    |succ i=>exact h2 i c c' (by simpa using a) (by simpa using b)
   ·simp at h
  ·simp at h
theorem E1{f:Nat->Option Nat}:∀{l r:List (Value×V)},M5 f l=some r->r.length=l.length/\∀(i:Nat) c c',l[i]? = some c->r[i]? = some c'->c'.1=c.1/\pr f 12 c.2=some c'.2
 |[],r,h=>by simp_all[M5]
 |(k,x)::l,r,h=>by
  simp only[M5] at h;split at h
  ·rename_i y hy;split at h
   ·rename_i q hq;simp at h;subst h;obtain⟨h1,h2⟩:=E1 hq;refine⟨by simp[h1],fun i c c' a b=>?_⟩;cases i with
    |zero=>simp at a b;subst a;subst b;exact⟨Y,hy⟩
    |succ i=>exact h2 i c c' (by simpa using a) (by simpa using b)
   ·simp at h
  ·simp at h
theorem A7{Yo:Hy}{f:Nat->Option Nat}(hY:uc Yo f){ob ob':Ob}(h:HL f ob=some ob'):ag Yo ob' ob:=by
 cases ob with
 |dead=>simp[HL] at h;subst h;trivial
 |res=>simp[HL] at h
 |iter c l=>simp[HL] at h
 |bld T e l=>simp[HL] at h
 |arr e k rows=>
  simp only[HL] at h;split at h
  ·rename_i r hr;simp at h;subst h;obtain⟨h1,h2⟩:=E0 hr;refine⟨Y,Y,h1,fun i r' r0 a b=>?_⟩
   grind [zK,xV]
  grind
 |map es=>
  simp only[HL] at h;split at h
  ·rename_i r hr;simp at h;subst h;obtain⟨h1,h2⟩:=E1 hr;refine⟨h1,fun i p p' a b=>?_⟩
   grind [xV]
  grind
theorem xW{Yo:Hy}{f:Nat->Option Nat}(hY:uc Yo f){n:Nat}:∀{l r:List V},zL (pr f n) l=some r->iJ Yo r l
 |[],r,h=>by simp[zL] at h;subst h;exact .nil
 |x::l,r,h=>by
  simp only[zL] at h;split at h
  ·rename_i y hy;split at h
   ·rename_i q hq;simp at h;subst h;exact .cons (rj hY hy) (xW hY hq)
   ·simp at h
  ·simp at h
def zW(f:V->List Nat):List V->List Nat
 |[]=>[]
 |x::l=>f x++zW f l
def yd:Nat->V->List Nat
 |0,_=>[]
 |n+1,v=>(match v with
  | .agg cs=>zW (yd n) cs
  | .tup cs=>zW (yd n) cs
  | .fn _ a b=>zW (yd n) a++zW (yd n) b
  | .ptr id _ _ _=>[id]
  | .own id _=>[id]
  | .map id=>[id]
  |_=>[])
def Nd:List (List V)->List Nat
 |[]=>[]
 |r::l=>zW (yd 12) r++Nd l
def Ng:List (Value×V)->List Nat
 |[]=>[]
 |p::l=>yd 12 p.2++Ng l
def Nf:Ob->List Nat
 | .arr _ _ rows=>Nd rows
 | .map es=>Ng es
 |_=>[]
def vR(hp:aH):Nat->List Nat->List Nat->Option (List Nat)
 |0,_,_=>none
 |n+1,l,acc=>(match l with
  |[]=>some acc
  |i::l=>(match uE i acc with
   |false=>vR hp n l acc
   |true=>vR hp n (Nf (ap hp i)++l) (acc++[i])))
def tS:List Nat->Nat->Nat->Option Nat
 |[],_,_=>none
 |x::l,j,i=>bif Nat.beq x i then some j else tS l (j+1) i
theorem wh:∀{l:List Nat} {j i r:Nat},tS l j i=some r->∃q,r=j+q/\lJ l q=some i
 |x::l,j,i,r,h=>by
  simp only[tS] at h;cases hb:Nat.beq x i with
  |true=>rw[hb] at h;simp at h;exact⟨0,h.symm,by rw[cg9 hb];rfl⟩
  |false=>
   rw[hb] at h;simp at h;obtain⟨q,h1,h2⟩:=wh h;exact⟨q+1,by omega,h2⟩
 |[],j,i,r,h=>by simp[tS] at h
def HY(f:Nat->Option Nat)(hp:aH):Nat->List Nat->Option (aH×aH)
 |_,[]=>some ([],[])
 |j,i::l=>(match HL f (ap hp i) with
  |some ob=>(match HY f hp (j+1) l with|some (h,r)=>some ((j,ob)::h,(i,ap hp i)::r)|none=>none)
  |none=>none)
theorem zU{Yo:Hy}{f:Nat->Option Nat}(hY:uc Yo f){hp hpS:aH}{R0:List Nat}:∀{l:List Nat} {j:Nat} {h r:aH},(∀q i,lJ l q=some i->lJ R0 (j+q)=some i)->HY f hp j l=some (h,r)->lp hpS r->
  bL Yo R0.length (sg R0) hpS h
 |[],j,h,r,hR,hh,hr=>by simp[HY] at hh;obtain⟨rfl,rfl⟩:=hh;exact .nil
 |i::l,j,h,r,hR,hh,hr=>by
  simp only[HY] at hh;split at hh
  ·rename_i ob ho;split at hh
   ·rename_i h' r' hq;simp at hh;obtain⟨rfl,rfl⟩:=hh;have h0:=hR 0 i rfl;obtain⟨a1,a2⟩:=jZ h0;simp only[bd9] at a1 a2;refine .cons a1 ?_ (zU hY (fun q i' hq'=>by have:=hR (q+1) i' hq';grind) hq hr.2);rw[a2,hr.1];exact A7 hY ho
   grind
  grind
theorem zT{f:Nat->Option Nat}{hp:aH}:∀{l:List Nat} {j:Nat} {h r:aH},HY f hp j l=some (h,r)->lp hp r
 |[],j,h,r,hh=>by simp[HY] at hh;obtain⟨rfl,rfl⟩:=hh;trivial
 |i::l,j,h,r,hh=>by
  simp only[HY] at hh;split at hh
  ·split at hh
   ·rename_i h' r' hq;simp at hh;obtain⟨rfl,rfl⟩:=hh;exact⟨Y,zT hq⟩
   ·simp at hh
  ·simp at hh
def Eo(f:Nat->Option Nat)(hp':aH):Nat->List Nat->Option aH
 |_,[]=>some []
 |j,i::l=>(match HL f (ap hp' j) with
  |some ob=>(match Eo f hp' (j+1) l with|some u=>some ((i,ob)::u)|none=>none)
  |none=>none)
theorem AX{Yo:Hy}{f:Nat->Option Nat}(hY:uc Yo f){hp':aH}{R0:List Nat}:∀{l:List Nat} {j:Nat} {u:aH},(∀q i,lJ l q=some i->lJ R0 (j+q)=some i)->j+l.length=R0.length->Eo f hp' j l=some u->lq Yo (sg R0) hp' R0.length j u
 |[],j,u,hR,hl,h=>by simp[Eo] at h;subst h;simp at hl;subst hl;exact .nil
 |i::l,j,u,hR,hl,h=>by
  simp only[Eo] at h;split at h
  ·rename_i ob ho;split at h
   ·rename_i u' hu;simp at h;subst h;have h0:=hR 0 i rfl;obtain⟨a1,a2⟩:=jZ h0;simp only[bd9] at a1 a2;exact .cons a2 (A7 hY ho) (AX hY (fun q i' hq'=>by have:=hR (q+1) i' hq';grind) (by grind) hu)
   grind
  grind
def lA(fr:Nat):Nat->List Nat
 |0=>[]
 |n+1=>fr::lA (fr+1) n
def Ek:List Nat->aH->Bool
 |[],_=>true
 |i::l,hp=>(match pL hp i with|some .res=>Ek l hp|_=>false)
def HB(l:List Nat):aH:=l.map fun i=>(i,.res)
theorem vO:∀{l:List Nat} {hp:aH},Ek l hp=true->lp hp (HB l)
 |[],hp,_=>trivial
 |i::l,hp,h=>by
  simp only[Ek] at h;split at h
  ·rename_i ho;exact⟨fI ho,vO h⟩
  ·simp at h
theorem oC{hp:aH}:∀{a b:aH},lp hp (a++b)<->lp hp a/\lp hp b
 |[],b=>by simp[lp]
 |(i,o)::a,b=>by
  simp_all[oC,lp,and_assoc]
theorem vQ:∀{l:List Nat} {hp:aH},lp hp (HB l)->∀i,i∈l->ap hp i=.res
 |[],_,_,i,hi=>by simp at hi
 |j::l,hp,h,i,hi=>by
  rcases aq8.1 hi with rfl|hi
  ·exact h.1
  ·exact vQ (l:=l) h.2 i hi
theorem rS:∀{n fr i:Nat},i∈lA fr n<->fr<=i/\i<fr+n
 |0,fr,i=>by simp[lA]
 |n+1,fr,i=>by simp only[lA,aq8,rS (n:=n)];omega
theorem zO{R:List Nat}{j i:Nat}(h:lJ R j=some i):sg R j=i/\j<R.length:=by
 obtain⟨a,b⟩:=jZ h<;>simp_all
def Pj(cb:Nat->List V->aH->Nat->Option (V×aH×Nat))(f:Nat)(avs:List V)(hp:aH)(fr nx:Nat):Option (V×aH×aH×Nat):=
 match vR hp 2000 (zW (yd 12) avs) [] with
 |some R=>(match zL (pr (tS R 0) 12) avs with
  |some avs'=>(match HY (tS R 0) hp 0 R with
   |some (hpc,rh)=>(match cb f avs' hpc R.length with
    |some (dc,hp',k')=>
     let nw:=lA fr (k' - R.length)
     let ρ:=R++nw
     (match Nat.ble R.length k'&&Ek nw hp&&C6 R.length k' nx nx (sg R) (sg ρ) (fun i=>Nat.ble fr i&&Nat.blt i (fr+(k' - R.length)))&&sE k' (sg ρ) with
     |true=>(match pr (lJ ρ) 12 dc with
      |some dv=>(match Eo (lJ ρ) hp' 0 ρ with
       |some u=>some (dv,rh++HB nw,u,fr+(k' - R.length))
       |none=>none)
      |none=>none)
     |false=>none)
    |none=>none)
   |none=>none)
  |none=>none)
 |none=>none
theorem Lm{cb:Nat->List V->aH->Nat->Option (V×aH×Nat)}(hcb:∀f avs hp k v hp' k',cb f avs hp k=some (v,hp',k')->cI K.P f=true/\hJ K.gl K.P f avs k hp v k' hp'){f:Nat}{avs:List V}{hp rh u:aH}{fr fr' nx d:Nat}{dv:V}
  (h:Pj cb f avs hp fr nx=some (dv,rh,u,fr')) (hpin:K.pins<=fr) (ht:cQ K.P t) {o:Oper} {e:cn} (hc:NC t e o.op=some (f,avs)) (hdst:o.dst=some d) (hN:Nat.blt d K.N=true):
  lp hp rh/\fr<=fr'/\∀S,S.nx=nx->Ag e S->lp S.hp rh->aN ops S o true->az K ops rest Q ⟨(d,dv)::S.env,u++S.hp,S.nx⟩->az K ops (o::rest) Q S:=by
 unfold Pj at h;split at h
 ·rename_i R hR;split at h
  ·rename_i avs' ha;split at h
   ·rename_i hpc rh0 hin;split at h
    ·rename_i dc hp' k' hcall;obtain⟨q1,q2⟩:=hcb _ _ _ _ _ _ _ hcall;simp only at h;split at h
     ·rename_i hb;simp only[ap9] at hb;obtain⟨⟨⟨b1,b2⟩,b3⟩,b4⟩:=hb;have b1':=aw9 b1;split at h
      ·rename_i dv' hdv;split at h
       ·rename_i u' hu;simp only[av8,Prod.mk.injEq] at h;obtain⟨rfl,rfl,rfl,rfl⟩:=h
        have hl:(R++lA fr (k' - R.length)).length=k':=by
         have:∀n fr,(lA fr n).length=n:=by intro n;induction n with|zero=>intro _;rfl|succ n ih=>simp_all[lA]
         simp[this];omega
        have hYR:uc (Ren R.length (sg R)) (tS R 0):=by
         rintro m β m' β' ⟨rfl,hy⟩
         refine⟨Y,fun i j hij=>?_⟩;obtain⟨q,e1,e2⟩:=wh hij;obtain⟨s1,s2⟩:=zO e2
         grind
        have hYT:uc (To k' (sg (R++lA fr (k' - R.length)))) (lJ (R++lA fr (k' - R.length))):=by
         rintro m β m' β' ⟨rfl,hy⟩
         refine⟨Y,fun i j hij=>?_⟩;obtain⟨s1,s2⟩:=zO hij
         grind
        refine⟨oC.2 ⟨zT hin,vO b2⟩,Nat.le_add_right _ _,fun S hn hag hrd hw kk=>?_⟩;obtain⟨r1,r2⟩:=oC.1 hrd
        have hun:lq (To k' (sg (R++lA fr (k' - R.length)))) (sg (R++lA fr (k' - R.length))) hp' k' 0 u':=by
         have:=AX (R0:=R++lA fr (k' - R.length)) hYT (j:=0) (fun q i h=>by grind) (by simp) hu;rw[hl] at this;exact this
        refine i8 (sg R) (sg (R++lA fr (k' - R.length))) S.nx u' _ hw hdst hN (oZ ht hag hc q1) (xW hYR ha) (bL.get (zU hYR (fun q i h=>by grind) hin r1)) q2 (fun i hi=>?_) (by rw[hn];exact b3) b4
         (ch9 (ae8 _)) b1 (fun i hi=>?_) (rj hYT hdv) hun kk
        ·simp only[ap9] at hi;exact vQ r2 i (rS.2 ⟨aw9 hi.1,aw9 hi.2⟩)
        ·simp only[ap9] at hi;exact bs8 hpin (aw9 hi.1)
       grind
      grind
     grind
    grind
   grind
  grind
 grind
def Mx(nx:Nat):aH->aH
 |[]=>[]
 |(i,o)::l=>bif Nat.blt i nx then (i,o)::Mx nx l else Mx nx l
def zD(hp:aH):Nat->Nat->aH->aH
 |_,0,r=>r
 |i,n+1,r=>(match ap hp i with | .res=>zD hp (i+1) n r | .dead=>zD hp (i+1) n r|o=>(i,o)::zD hp (i+1) n r)
def Bx(nx n:Nat)(hp:aH):aH:=zD hp nx n (Mx nx hp)
theorem Ii(i n:Nat){α:Type}(a b:α):(bif Nat.blt i n then a else b)=if i<n then a else b:=by
 simp_all
theorem E6(nx:Nat):∀(l:aH) (t:Nat),ap (Mx nx l) t=if t<nx then ap l t else .dead
 |[],t=>by simp[Mx,ap]
 |(i,o)::l,t=>by
  have ih:=E6 nx l t;simp only[Mx,Ii];split
  ·rename_i h;rw[aq,aq,ih]
   grind
  ·rename_i h;rw[ih,aq]
   grind
theorem AW(hp:aH):∀(n i:Nat) (r:aH) (t:Nat),ap (zD hp i n r) t=ap r t\/(i<=t/\ap (zD hp i n r) t=ap hp t)
 |0,i,r,t=>.inl rfl
 |n+1,i,r,t=>by
  have ih:=AW hp n (i+1) r t;simp only[zD];split
  ·grind
  ·grind
  ·rw[aq]
   grind
theorem FN(nx n:Nat)(hp:aH)(t:Nat):ap (Bx nx n hp) t=ap hp t\/ap (Bx nx n hp) t=.dead:=by
 grind [Bx,AW,E6]
theorem bY.less{m:bF}{β:bd}{w:World}{a:Act}(r:bY K m β w a S){hp:aH}(h:∀t,ap hp t=ap S.hp t\/ap hp t=.dead):bY K m β w a ⟨S.env,hp,S.nx⟩:=by
 have hl:∀i,ap hp i≠.dead->ap S.hp i≠.dead:=fun i hi=>by grind
 constructor
 ·exact r.imm
 ·exact r.ext
 ·exact r.mold
 ·exact r.frame
 ·exact r.size
 ·exact r.same
 ·exact r.tn
 ·exact r.df
 ·exact r.env
 ·intro id
  show bo m β w _ _ (ap hp id)
  rcases h id with e|e
  ·rw[e];exact r.own id
  simp_all[bo.dead']
 ·exact fun id b cap hi=>r.priv id b cap (hl id hi)
 ·exact fun id id' b cap cap' hi hi'=>r.inj id id' b cap cap' (hl id hi) (hl id' hi')
 ·exact fun id x hi hx=>(r.hid id x (hl id hi) hx).weak hl
 ·exact r.nx
 ·exact r.pin
theorem Aa{e:cn}{hp hp':aH}{nx:Nat}(h:∀t,ap hp' t=ap hp t\/ap hp' t=.dead):aU K ⟨e,hp,nx⟩ ⟨e,hp',nx⟩:=fun m β _ _ r=>⟨m,β,r.less h⟩
end
section
variable{K:de}{Q:cp}{S S':St}{ops:Array Oper}{rest:List Oper}{t:TT}{ty:TypeId}{pos:String}{after:Array Edge}{g:Option (Nat×Bool)}
theorem wk(u q e k:Nat)(ht:get S.env u=nV)(hq:ap S.hp q=.res)(hlt:q<S.nx)(hpin:K.pins<=q):aU K S ⟨(u,.own q 0)::S.env,(q,.arr e k [])::S.hp,S.nx⟩:=by
 intro m β w a r;have hf:β q=none:=r.free hq
 let β':bd:=⟨fun i=>if i=q then some none else β i,fun i=>if i=q then fun _=>False else β.hid i⟩
 have hq':β' q=some none:=by show(if q=q then _ else _)=_;grind
 have ho:∀i,i≠q->β' i=β i:=fun i h=>by grind
 have hle:β.le β':=fun i l h=>by
  grind
 have hn:β'.hid q=fun _=>False:=by show(if _ then _ else _)=_;grind
 have hho:∀i,i≠q->β'.hid i=β.hid i:=fun i h=>by grind
 have hlive:∀i,i≠q->ap ((q,Ob.arr e k [])::S.hp) i≠.dead->ap S.hp i≠.dead:=by
  intro i h hi;rw[aq,if_neg (Ne.symm h)] at hi;exact hi
 refine⟨m,β',r.imm,r.ext,r.mold,r.frame,r.size,r.same,r.tn,r.df,?_,?_,?_,?_,?_,fun id h=>(ho id (by grind)).trans (r.nx id h),fun p hp=>⟨(r.pin p hp).1,(ho p (by omega)).trans (r.pin p hp).2⟩⟩
 ·intro i
  show bw m β' (get ((u,.own q 0)::S.env) i) _
  rw[cL];split
  ·rename_i h;subst h;have:=r.env u;rw[ht] at this;rw[this.of_con];exact .ownNil hq'
  ·exact(r.env i).mono (bF.le_refl _) hle
 ·intro id
  show bo m β' w (β'.hid id) (β' id) (ap ((q,Ob.arr e k [])::S.hp) id)
  rw[aq];split
  ·simp_all[bo]
  ·rename_i h;rw[hho id (Ne.symm h),ho id (Ne.symm h)];exact bo.mono (bF.le_refl _) hle (fun _ _ h=>h) (fun _ _=>Y) (r.own id)
 ·intro id b cap hl hb;by_cases h:id=q
  ·grind
  ·rw[ho id h] at hb;exact r.priv id b cap (hlive id h hl) hb
 ·intro id id' b c c' hl hl' hb hb';by_cases h:id=q
  ·grind
  ·by_cases h':id'=q
   ·grind
   ·rw[ho id h] at hb;rw[ho id' h'] at hb';exact r.inj id id' b c c' (hlive id h hl) (hlive id' h' hl') hb hb'
 ·intro id x hl hx;by_cases h:id=q
  ·grind
  ·rw[hho id h] at hx;have z:=r.hid id x (hlive id h hl) hx;refine⟨z.lt,z.m,z.old,fun i b c hi hb=>?_,fun i hi hx'=>?_⟩
   ·by_cases h':i=q
    ·grind
    ·rw[ho i h'] at hb;exact z.ne i b c (hlive i h' hi) hb
   ·by_cases h':i=q
    ·grind
    ·rw[hho i h'] at hx';exact z.un i (hlive i h' hi) hx'
theorem pf{d T T' e k bytes n' nx u:Nat}{x:Operand}{sv:V}(idn q:Nat)(hid:(Nat.blt idn nx&&Nat.ble K.pins idn)=true)(hidq:(Nat.blt q nx&&Nat.ble K.pins q)=true)(hne:idn≠q)(hnxx:S.nx=nx)(hres:ap S.hp idn=.res)(hresq:ap S.hp q=.res)(rows2:List (List V))(hT:eJ K.P T e k bytes=true)(hT':cF K.P T'=true)
  (hpos:Nat.blt 0 bytes=true) (hkp:Nat.blt 0 k=true)
  (hw:aN ops S ⟨some d,.call ⟨.builtin .append,#[.tmp u,x],#[T,T']⟩,ty,pos,after,none⟩ true)
  (hs:get S.env u=nV) (hx:ca K ⟨(u,.own q 0)::S.env,(q,.arr e k [])::S.hp,S.nx⟩ x=sv) (hsrc:xm ⟨(u,.own q 0)::S.env,(q,.arr e k [])::S.hp,S.nx⟩ k sv rows2)
  (hn':rows2.length=n') (hb:n'*bytes<=140737488355328) (hN:Nat.blt d K.N=true)
  (kk:az K ops rest Q ⟨(d,.own idn n')::(u,.any)::S.env,(idn,.arr e k rows2)::(q,.dead)::S.hp,S.nx⟩):
  az K ops (⟨some d,.call ⟨.builtin .append,#[.tmp u,x],#[T,T']⟩,ty,pos,after,none⟩::rest) Q S:=by
 simp only[ap9] at hidq;refine bi (wk u q e k hs hresq (by simp_all) (aw9 hidq.2)) ?_;refine bA (S:=⟨(u,.own q 0)::S.env,(q,.arr e k [])::S.hp,S.nx⟩) (id:=q) (n:=0) (rows:=[]) idn hid hnxx (by simp_all[aq,Ne.symm]) rows2 rows2 hT hT' hpos hkp Y (by show get ((u,.own q 0)::S.env) u=_;simp_all[cL]) (by simp_all[aq]) Y hx hsrc Y hn' hb hN ?_;refine bi (pM ((d,.own idn n')::(u,.any)::S.env) ((idn,.arr e k rows2)::(q,.dead)::S.hp) (fun i=>?_) (fun i=>?_)) kk
 ·grind [cL,ai.keepI,ai.any]
 ·show ag Jm (ap ((idn,.arr e k rows2)::(q,.dead)::S.hp) i) (ap ((idn,.arr e k rows2)::(q,.dead)::(q,.arr e k [])::S.hp) i)
  simp_all[aq,ag.keep,ai.keepI]
def KB(k:Nat)(e:cn)(hp:aH)(y:Operand):Option (List (List V)):=match el e y with
 |some (.own id2 n2)=>(match pL hp id2 with
  |some (.arr _ k3 rows2)=>(match Nat.beq k3 k&&Nat.beq rows2.length n2&&KP rows2 with|true=>some rows2|false=>none)
  |_=>none)
 |some (.con (.slice none 0 0))=>some []
 |_=>none
theorem Hw{k:Nat}{e:cn}{hp:aH}{y:Operand}{rows2:List (List V)}(h:KB k e hp y=some rows2)(ha:Ag e S)(hh:G4 hp S):xm S k (ca K S y) rows2:=by
 unfold KB at h;split at h
 ·rename_i id2 n2 hy;split at h
  ·rename_i k3 rows3 ho;split at h
   ·rename_i hb;simp only[ap9] at hb;simp only[av8] at h;subst h;have e4:=cg9 hb.1.1;subst e4;rw[aS ha hy]
    exact .own (hh _ _ ho) (cg9 hb.1.2) (fun row hr c hc=>by
     obtain⟨j,hj⟩:=ba8 hc;exact kg (sj hb.2 row hr) hj)
   grind
  grind
 ·rename_i hy;simp only[av8] at h;subst h;rw[aS ha hy];exact .nil
 grind
def Po(t:TT)(d:Nat)(e:cn)(hp:aH)(fr:Nat):Op->Option (cn×aH×Nat)
 | .call c=>(match c.callee,c.args.toList,c.argTypes.toList with
  | .builtin .append,[.tmp a,y],[T,T']=>(match dw t T TF.qEl,dw t T' TF.qSn with
   |some (ety,k,bytes),some _=>(match Nat.blt 0 bytes&&Nat.blt 0 k with
    |true=>(match KB k e hp y with
     |some rows2=>(match pu e a with
      |some (.own id n)=>(match pL hp id with
       |some (.arr e2 k2 rows)=>(match Nat.beq ety e2&&Nat.beq k k2&&Nat.beq rows.length n&&Nat.ble ((rows++rows2).length*bytes) 140737488355328 with
        |true=>some ([(d,.own fr (rows++rows2).length)],[(fr,.arr ety k (rows++rows2)),(id,.dead)],1)
        |false=>none)
       |_=>none)
      |some (.con (.slice none 0 0))=>(match Nat.ble (rows2.length*bytes) 140737488355328&&(match y with | .tmp b=>bif Nat.beq b a then false else true|_=>true) with
       |true=>some ([(d,.own fr rows2.length),(a,.any)],[(fr,.arr ety k rows2),(fr+1,.dead)],2)
       |false=>none)
      |_=>none)
     |none=>none)
    |false=>none)
   |_,_=>none)
  |_,_,_=>none)
 |_=>none
theorem KA{k u q e:Nat}{sv:V}{rows2:List (List V)}(h:xm S k sv rows2)(hq:ap S.hp q=.res):xm ⟨(u,.own q 0)::S.env,(q,.arr e k [])::S.hp,S.nx⟩ k sv rows2:=by
 cases h with
 |own ho hn hd=>
  exact .own (by
   rw[aq];split
   ·rename_i h;subst h;rw[hq] at ho;simp at ho
   ·exact ho) hn hd
 |lst h=>exact .lst h
 |nil=>exact .nil
 |str hk hr=>exact .str hk hr
theorem Lt{op:Op}(ht:cQ K.P t){d:Nat}{e:cn}{hp:aH}{fr nx q:Nat}{ue:cn}{uh:aH}(ha:Ag e S)(hh:G4 hp S)(hnx:S.nx=nx)(h:Po t d e hp fr op=some (ue,uh,q))(hres:∀i,fr<=i->i<fr+q->ap S.hp i=.res/\i<nx)(hpin:K.pins<=fr)
  (hN:Nat.blt d K.N=true) (k:az K ops rest Q ⟨ue++S.env,uh++S.hp,S.nx⟩):az K ops (⟨some d,op,ty,pos,after,none⟩::rest) Q S:=by
 cases op<;>simp only[Po,reduceCtorEq] at h;rename_i c;obtain⟨callee,args,at'⟩:=c;simp only at h;split at h
 ·rename_i a y T T' hargs hats;have hargs:=dz hargs;have hats:=dz hats;subst hargs;subst hats;split at h
  ·rename_i ety kk bytes _ hT hT';split at h
   ·rename_i hb0;simp only[ap9] at hb0;split at h
    ·rename_i rows2 hy;have hsrc:=Hw (K:=K) hy ha hh;split at h
     ·rename_i id n hx;split at h
      ·rename_i e2 k2 rows ho;split at h
       ·rename_i hb;simp only[ap9] at hb;have e1:=cg9 hb.1.1.1;have e2:=cg9 hb.1.1.2;have e3:=cg9 hb.1.2;subst e1;subst e2;simp only[av8,Prod.mk.injEq] at h;obtain⟨rfl,rfl,rfl⟩:=h;obtain⟨r1,r2⟩:=hres fr (ae8 _) (ak9 _);exact bA fr (by simp only[ap9];exact⟨ch9 r2,ch9 hpin⟩) hnx r1 rows2 _ (kX ht hT) (jS ht hT') hb0.1 hb0.2 Y (ha _ _ hx) (hh _ _ ho) e3 Y hsrc Y Y (aw9 hb.2) hN k
       ·simp at h
      ·simp at h
     ·rename_i hx;split at h
      ·rename_i hb;simp only[ap9] at hb;simp only[av8,Prod.mk.injEq] at h;obtain⟨rfl,rfl,rfl⟩:=h;obtain⟨r1,r2⟩:=hres fr (ae8 _) (by omega);obtain⟨q1,q2⟩:=hres (fr+1) (ak8 _) (by omega)
       have hey:ca K ⟨(a,.own (fr+1) 0)::S.env,(fr+1,.arr ety kk [])::S.hp,S.nx⟩ y=ca K S y:=by
        cases y with
        |tmp b=>
         have hba:b≠a:=fun e=>by
          subst e;have:=hb.2;simp at this
         show get ((a,.own (fr+1) 0)::S.env) b=get S.env b
         rw[cL,if_neg (Ne.symm hba)]
        |const v=>rfl
        |global g=>rfl
        |func f=>rfl
       refine pf fr (fr+1) (by simp only[ap9];exact⟨ch9 r2,ch9 hpin⟩) (by simp only[ap9];exact⟨ch9 q2,ch9 (Nat.le_succ_of_le hpin)⟩) (by omega) hnx r1 q1 rows2 (kX ht hT) (jS ht hT') hb0.1 hb0.2 Y (ha _ _ hx) hey (KA hsrc q1) Y (aw9 hb.1) hN k
      ·simp at h
     ·simp at h
    ·simp at h
   ·simp at h
  ·simp at h
 ·simp at h
end
section
variable{K:de}{Q:cp}{S S':St}{ops:Array Oper}{rest:List Oper}{t:TT}
def O4(cb:Nat->List V->Option V)(cb2:Nat->List V->aH->Nat->Option (V×aH×Nat))(t:TT)(mt:List MT)(N fr:Nat)(ops:Array Oper)(o:Oper)(e:cn)(hp:aH)(nx:Nat):Option (OD×Nat):=
 match KG ops o e with
 |none=>none
 |some re=>(match wt ops re o.guard with
  |none=>none
  |some b=>(match b with
   |false=>(match o.dst with|some d=>(match Nat.blt d N with|true=>some (⟨re,[],[(d,.con undef)],[]⟩,fr)|false=>none)|none=>none)
   |true=>(match Ni re hp (hrO o.op) [] with
    |none=>none
    |some rh=>(match o.dst with
     |some d=>(match Nat.blt d N with
      |false=>none
      |true=>(match val t re rh o.op with
       |some v=>some (⟨re,rh,[(d,v)],[]⟩,fr)
       |none=>(match JN t re fr o.op with
        |some (v,ob)=>(match Nat.blt fr nx,pL hp fr with
         |true,some .res=>some (⟨re,(fr,.res)::rh,[(d,v)],[(fr,ob)]⟩,fr+1)
         |_,_=>none)
        |none=>(match NC t re o.op with
         |some (f,avs)=>(match pi Fr avs,cb f avs with
          |true,some v=>some (⟨re,rh,[(d,v)],[]⟩,fr)
          |_,_=>(match Pj cb2 f avs hp fr nx with
           |some (dv,rh2,u,fr')=>some (⟨re,rh2,[(d,dv)],u⟩,fr')
           |none=>none))
         |none=>(match m7 t mt re rh nx o.op with
          |some (v,[],0)=>some (⟨re,rh,[(d,v)],[]⟩,fr)
          |_=>(match o.guard,Po t d re rh fr o.op with
           |none,some (ue,uh,q)=>(match Nat.ble (fr+q) nx&&Ek (lA fr q) hp with
            |true=>some (⟨re,HB (lA fr q)++rh,ue,uh⟩,fr+q)
            |false=>none)
           |_,_=>none))))))
     |none=>(match Ov t mt re rh o.op with|some (id,ob)=>some (⟨re,rh,[],[(id,ob)]⟩,fr)|none=>none)))))
theorem KK{cb:Nat->List V->Option V}{cb2:Nat->List V->aH->Nat->Option (V×aH×Nat)}(hcb2:∀f avs hp k v hp' k',cb2 f avs hp k=some (v,hp',k')->cI K.P f=true/\hJ K.gl K.P f avs k hp v k' hp')(hcb:∀f avs v,cb f avs=some v->cI K.P f=true/\dG K.gl K.P f avs v)(ht:cQ K.P t){mt:List MT}(hmt:tm K.P mt){o:Oper}{D:OD}{e:cn}{hp:aH}{fr fr' nx:Nat}(hpin:K.pins<=fr)
  (h:O4 cb cb2 t mt K.N fr ops o e hp nx=some (D,fr')):yS K nx ops o D/\ti e D.re/\lp hp D.rh/\fr<=fr':=by
 unfold O4 at h;split at h
 ·simp at h
 ·rename_i re hre;have hre':=HC hre;split at h
  ·simp at h
  ·rename_i b hw;split at h
   ·split at h
    ·rename_i d hd;split at h
     ·rename_i hN;simp at h;obtain⟨rfl,rfl⟩:=h;exact⟨fun S2 hn h1 h2=>pU (iW (di h1) hw) hd hN (aL ⟨Y,Y⟩),hre',trivial,ae8 _⟩
     grind
    grind
   ·split at h
    ·simp at h
    ·rename_i rh hrh;have hrh':=Fw (l:=[]) trivial hrh;obtain⟨dst,op,ty,pos,after,g⟩:=o;cases dst with
     |some d=>
      simp only at h;split at h
      ·simp at h
      ·rename_i hN;split at h
       ·rename_i v hv;simp at h;obtain⟨rfl,rfl⟩:=h;exact⟨fun S2 hn h1 h2=>zm ht (di h1) (nX h2) hv (iW (di h1) hw) hN (aL ⟨Y,Y⟩),hre',hrh',ae8 _⟩
       ·split at h
        ·rename_i v ob hv;split at h
         ·rename_i hb hres;simp at h;obtain⟨rfl,rfl⟩:=h;exact⟨fun S2 hn h1 h2=>Lv ht (di h1) hv (by simp_all) hn h2.1 (iW (di h1) hw) hN (aL ⟨Y,Y⟩),hre',⟨fI hres,hrh'⟩,ak8 _⟩
         grind
        ·split at h
         ·rename_i f avs hc;split at h
          ·rename_i v hai hcv;simp at h;obtain⟨rfl,rfl⟩:=h;obtain⟨q1,q2⟩:=hcb _ _ _ hcv;refine⟨fun S2 hn h1 h2=>?_,hre',hrh',ae8 _⟩;refine iF (o:=⟨some d,op,ty,pos,after,g⟩) (iW (di h1) hw) Y hN (fun m β w a r=>?_) q2 (aL ⟨Y,Y⟩);obtain⟨vs,e1,e2⟩:=oZ ht (o:=⟨some d,op,ty,pos,after,g⟩) (di h1) hc q1 m β w a r;exact⟨vs,e1,⟨e2.len,fun i c v a b=>ki (kA hai c (aw8 a)) (e2.at' i c v a b)⟩⟩
          ·split at h
           ·rename_i dv rh2 u fr2 hB;simp only[av8,Prod.mk.injEq] at h;obtain⟨rfl,rfl⟩:=h;have p:=fun(Q:cp)=>Lm (Q:=Q) (ops:=ops) (rest:=[]) hcb2 hB hpin ht (o:=⟨some d,op,ty,pos,after,g⟩) hc rfl hN;exact⟨fun S2 hn h1 h2=>(p _).2.2 S2 hn (di h1) h2 (iW (di h1) hw) (aL ⟨Y,Y⟩),hre',(p (fun _ _=>True)).1,(p (fun _ _=>True)).2.1⟩
           grind
         ·split at h
          ·rename_i v hv;simp at h;obtain⟨rfl,rfl⟩:=h;exact⟨fun S2 hn h1 h2=>AY ht hmt (di h1) (nX h2) hn hv (iW (di h1) hw) hN (aL ⟨Y,Y⟩),hre',hrh',ae8 _⟩
          ·split at h
           ·rename_i ue uh q hap;split at h
            ·rename_i hb;simp only[ap9] at hb;simp only[av8,Prod.mk.injEq] at h;obtain⟨rfl,rfl⟩:=h;refine⟨fun S2 hn h1 h2=>?_,hre',oC.2 ⟨vO hb.2,hrh'⟩,Nat.le_add_right _ _⟩;obtain⟨y1,y2⟩:=oC.1 h2;exact Lt ht (di h1) (nX y2) hn hap (fun i h1 h2=>⟨vQ y1 i (rS.2 ⟨h1,h2⟩),ci8 h2 (aw9 hb.1)⟩) hpin hN (aL ⟨Y,Y⟩)
            grind
           grind
     |none=>
      simp only at h;split at h
      ·rename_i id ob hv;simp at h;obtain⟨rfl,rfl⟩:=h;exact⟨fun S2 hn h1 h2=>Dd ht hmt (di h1) (nX h2) hv (iW (di h1) hw) (aL ⟨Y,Y⟩),hre',hrh',ae8 _⟩
      grind
theorem yn{e e':cn}(h:∀t,get e t=get e' t):∀(u:cn) (t:Nat),get (u++e) t=get (u++e') t
 |[],t=>h t
 |(i,o)::u,t=>by
  show get ((i,o)::(u++e)) t=get ((i,o)::(u++e')) t
  rw[cL,cL,yn h u]
theorem uV{e e':aH}(h:∀t,ap e t=ap e' t):∀(u:aH) (t:Nat),ap (u++e) t=ap (u++e') t
 |[],t=>h t
 |(i,o)::u,t=>by
  show ap ((i,o)::(u++e)) t=ap ((i,o)::(u++e')) t
  rw[aq,aq,uV h u]
def My(cb:Nat->List V->Option V)(cb2:Nat->List V->aH->Nat->Option (V×aH×Nat))(t:TT)(mt:List MT)(N:Nat)(ops:Array Oper):List Oper->Nat->cn->aH->Nat->Option (List OD×cn×aH)
 |[],_,e,hp,_=>some ([],e,hp)
 |o::l,fr,e,hp,nx=>(match O4 cb cb2 t mt N fr ops o e hp nx with
  |some (D,fr')=>(match My cb cb2 t mt N ops l fr' (uu D.ue e) (qc D.uh hp) nx with|some (ds,e',hp')=>some (D::ds,e',hp')|none=>none)
  |none=>none)
theorem FO{cb:Nat->List V->Option V}{cb2:Nat->List V->aH->Nat->Option (V×aH×Nat)}(hcb2:∀f avs hp k v hp' k',cb2 f avs hp k=some (v,hp',k')->cI K.P f=true/\hJ K.gl K.P f avs k hp v k' hp')(hcb:∀f avs v,cb f avs=some v->cI K.P f=true/\dG K.gl K.P f avs v)(ht:cQ K.P t){mt:List MT}(hmt:tm K.P mt){nx:Nat} :
  ∀{l:List Oper} {fr:Nat} {e e':cn} {hp hp':aH} {ds:List OD} {S:St},K.pins<=fr->My cb cb2 t mt K.N ops l fr e hp nx=some (ds,e',hp')->S.nx=nx->(∀t,get S.env t=get e t)->(∀t,ap S.hp t=ap hp t)->
  pp S ds/\nY K nx ops l ds/\(∀t,get (gI S ds).env t=get e' t)/\(∀t,ap (gI S ds).hp t=ap hp' t)/\(gI S ds).nx=nx
 |[],fr,e,e',hp,hp',ds,S,hpin,h,hn,h1,h2=>by
  simp[My] at h;obtain⟨rfl,rfl,rfl⟩:=h;exact⟨trivial,.nil,h1,h2,hn⟩
 |o::l,fr,e,e',hp,hp',ds,S,hpin,h,hn,h1,h2=>by
  simp only[My] at h;split at h
  ·rename_i D fr' hD;obtain⟨a1,a2,a3,a4⟩:=KK hcb2 hcb ht hmt hpin hD;split at h
   ·rename_i ds' e2 hp2 hR;simp at h;obtain⟨rfl,rfl,rfl⟩:=h;have:=FO hcb2 hcb ht hmt (S:=S.upd D) (bs8 hpin a4) hR hn (fun t=>(yn h1 _ t).trans (pN _ _ t).symm) (fun t=>(uV h2 _ t).trans (kj _ _ t).symm);exact⟨⟨ti.congr (fun t _=>(h1 t).symm) a2,lp.congr (fun t _=>(h2 t).symm) a3,this.1⟩,.cons a1 this.2.1,this.2.2⟩
   ·simp at h
  ·simp at h
def Em(nx:Nat):Nat->aH->aH
 |0,hp=>hp
 |n+1,hp=>(nx+n,.res)::Em nx n hp
theorem BG{c:Code}{e:cn}{hp:aH}{nx:Nat}:∀(n:Nat),iQ K c Q ⟨e,Em nx n hp,nx+n⟩->iQ K c Q ⟨e,hp,nx⟩
 |0,h=>h
 |n+1,h=>BG n (aO ci h)
theorem Gc{c:Code}(h:K.pins<=S.nx->iQ K c Q S):iQ K c Q S:=by
 intro m β w a r;refine h ?_ m β w a r;cases hp:K.pins with
 |zero=>grind
 |succ q=>have:=(r.pin q (by omega)).1;omega
theorem Lp{cb:Nat->List V->Option V}{cb2:Nat->List V->aH->Nat->Option (V×aH×Nat)}(hcb2:∀f avs hp k v hp' k',cb2 f avs hp k=some (v,hp',k')->cI K.P f=true/\hJ K.gl K.P f avs k hp v k' hp')(hcb:∀f avs v,cb f avs=some v->cI K.P f=true/\dG K.gl K.P f avs v)(ht:cQ K.P t){mt:List MT}(hmt:tm K.P mt)(hm:K.P.follows .mixedOrders=true){rid n nx:Nat}{e e':cn}{hp hp':aH}{ds:List OD}
  (h:My cb cb2 t mt K.N ops ops.toList nx e (Em nx n hp) (nx+n)=some (ds,e',hp')) (hok:qo ops.toList ds=true) (k:∀S1,aU K S1 ⟨e',hp',nx+n⟩->Q .normal S1):iQ K (.region rid ops true) Q ⟨e,hp,nx⟩:=by
 refine Gc (fun hpin=>BG n ?_);obtain⟨l⟩:=ops;obtain⟨a1,a2,a3,a4,a5⟩:=FO hcb2 hcb ht hmt (S:=⟨e,Em nx n hp,nx+n⟩) hpin h rfl (fun _=>rfl) (fun _=>rfl);exact Io ds hm a1 hok a2 (k _ (fun m β _ _ r=>⟨m,β,r.congr (fun t=>(a3 t).symm) (fun t=>(a4 t).symm) a5.symm⟩))
end
section
variable{K:de}{Q:cp}{S S':St}{t:TT}
def rvT:ResultVar->Nat
 | .tmp x=>x
 | .cell x _=>x
def MV(e:cn):List ResultVar->Option (List (Nat×V))
 |[]=>some []
 |r::l=>(match pu e (rvT r) with|some v=>(match MV e l with|some q=>some ((rvT r,v)::q)|none=>none)|none=>none)
def M7(f:Nat->Option Nat):List (Nat×V)->Option cn
 |[]=>some []
 |(x,v)::l=>(match pr f 12 v with|some y=>(match M7 f l with|some q=>some ((x,y)::q)|none=>none)|none=>none)
def Fu(hp:aH):Nat->List Nat
 |0=>[]
 |q+1=>Nf (ap hp q)++Fu hp q
def Nh:List (Nat×V)->List Nat
 |[]=>[]
 |p::l=>yd 12 p.2++Nh l
def Pg(k:Nat)(rs:List ResultVar):St->Option St
 |⟨e,hp,nx⟩=>(match MV e rs with
  |some l=>(match vR hp 4000 (Fu hp k++Nh l) (lA 0 k) with
   |some R=>(match M7 (tS R 0) l with
    |some e2=>(match HY (tS R 0) hp 0 R with
     |some (h2,_)=>(match nodup R&&uz R k with|true=>some ⟨e2,h2,R.length⟩|false=>none)
     |none=>none)
    |none=>none)
   |none=>none)
  |none=>none)
theorem Dj{R:List Nat}:uc (Ren R.length (sg R)) (tS R 0):=by
 rintro m β m' β' ⟨rfl,h⟩
 refine⟨Y,fun i j hij=>?_⟩;obtain⟨q,rfl,hq⟩:=wh hij<;>simp_all[zO]
theorem A8{Yo:Hy}{f:Nat->Option Nat}(hY:uc Yo f){e:cn}{rs:List ResultVar}:∀{l:List (Nat×V)} {e2:cn},(∀p,p∈l->get e p.1=p.2)->M7 f l=some e2->bE Yo e e2
 |[],e2,_,h=>by simp[M7] at h;subst h;exact .nil
 |(x,v)::l,e2,hl,h=>by
  simp only[M7] at h;split at h
  ·rename_i y hy;split at h
   ·rename_i q hq;simp at h;subst h;exact .cons (by grind [List.mem_cons_self,rj]) (A8 (rs:=rs) hY (fun p hp=>hl p (bu8 _ hp)) hq)
   grind
  grind
theorem Eh{e:cn}:∀{rs:List ResultVar} {l:List (Nat×V)},MV e rs=some l->∀p,p∈l->get e p.1=p.2
 |[],l,h,p,hp=>by simp_all[MV]
 |r::rs,l,h,p,hp=>by
  simp only[MV] at h;split at h
  ·rename_i v hv;split at h
   ·rename_i q hq;simp at h;subst h;rcases aq8.1 hp with rfl|hp
    ·exact dN hv
    ·exact Eh hq p hp
   ·simp at h
  ·simp at h
theorem Lk{k:Nat}{rs:List ResultVar}{S S2:St}(h:Pg k rs S=some S2)(hk:K.pins=k):aU K S S2:=by
 obtain⟨e,hp,nx⟩:=S;simp only[Pg] at h;split at h
 ·rename_i l hl;split at h
  ·rename_i R hR;split at h
   ·rename_i e2 he;split at h
    ·rename_i h2 r hin;split at h
     ·rename_i hb;simp only[ap9] at hb;simp only[av8] at h;subst h;exact aV (S:=⟨e,hp,nx⟩) R.length (sg R) e2 h2 (si hb.1) (A8 (rs:=rs) Dj (Eh hl) he).get (bL.get (zU (R0:=R) Dj (fun q i h=>by grind) hin (zT hin))) (by simp_all[r8])
     grind
    grind
   grind
  grind
 grind
def fin(k:Nat)(rs:List ResultVar)(S:St):St:=match Pg k rs S with|some S2=>S2|none=>S
theorem K7{k:Nat}{rs:List ResultVar}{S:St}(hk:K.pins=k):aU K S (fin k rs S):=by
 unfold fin;split
 ·grind [Lk]
 ·exact fun m β _ _ r=>⟨m,β,r⟩
def CA(k:Nat)(rs:List ResultVar)(o:Option St):Option St:=match o with|some S=>some (fin k rs S)|none=>none
theorem Cz{k:Nat}{rs:List ResultVar}{o:Option St}{S2:St}(h:CA k rs o=some S2):∃S,o=some S/\fin k rs S=S2:=by
 unfold CA at h
 grind
end
section
variable{K:de}{Q:cp}{S S':St}{ops:Array Oper}{rest:List Oper}{t:TT}
theorem yJ{o:Oper}{d:Nat}{f:FuncId}{avs:List V}{k':Nat}{hp':aH}{dv:V}(hw:aN ops S o true)(hd:o.dst=some d)(hN:Nat.blt d K.N=true)
  (hrun:∀m β w a,bY K m β w a S->∃vs:Array Value,(execOp a.eval o).run K.P w=.ok (.enter f vs) w/\kZ m β avs vs)
  (hc:hJ K.gl K.P f avs S.nx S.hp dv k' hp') (kk:az K ops rest Q ⟨(d,dv)::S.env,hp',k'⟩):az K ops (o::rest) Q S:=by
 intro m β w a r;unfold wpListIn;rw[if_pos (hw.at r)];obtain⟨vs,h1,h2⟩:=hrun m β w a r;refine ni (.inr (kc h1 (fun d e=>by cases e))) ?_;unfold Oper.wp;rw[h1];refine(hc m β w vs r.imm (K.glok.mono r.ext) h2 r.own (fun id b cap hl hb=>(r.priv id b cap hl hb).1) r.inj (fun id x hl hx=>let q:=r.hid id x hl hx;⟨q.lt,q.m,q.ne,q.un⟩) r.nx).mono ?_
 rintro e w' ⟨v,m',β',rfl,hv,g⟩
 simp only[hd]
 have hle:S.nx<=k':=by
  cases hn:S.nx with
  |zero=>grind
  |succ q=>have:=(g.pin q (by omega)).1;omega
 have hβle:β.le β':=by
  intro id l hl;by_cases h:id<S.nx
  ·rw[(g.pin id h).2];exact hl
  ·rw[r.nx id (by omega)] at hl;simp at hl
 have hold:∀b,b<K.w0.heap.size->K.old b->b<w.heap.size/\dp S.hp β b:=fun b hb ho=>
  ⟨ci8 hb r.size,fun i hl=>⟨fun c hb'=>(r.priv _ _ _ hl hb').2 hb ho,fun hx=>(r.hid _ _ hl hx).old hb ho⟩⟩
 have r2:bY K m' β' w' a ⟨S.env,hp',k'⟩:=by
  constructor
  ·exact g.imm
  ·exact bF.le_trans r.ext g.le
  ·intro b hb ho;obtain⟨q1,q2⟩:=hold b hb ho;rw[(g.old b q1 q2).1];exact r.mold b hb ho
  ·intro b hb ho;obtain⟨q1,q2⟩:=hold b hb ho;rw[(g.old b q1 q2).2];exact r.frame b hb ho
  ·exact bs8 r.size g.size
  ·exact r.same.trans g.same
  ·exact r.tn
  ·exact r.df.mono g.le
  ·exact fun t=>(r.env t).mono g.le hβle
  ·exact g.own
  ·intro id b cap hl hb;obtain⟨q1,q2⟩:=g.priv id b cap hl hb<;>grind
  ·exact g.inj
  ·intro id x hl hx;obtain⟨q1,q2,q3,q4,q5⟩:=g.hid id x hl hx;exact⟨q1,q2,fun hb0 ho=>q3 (hold x hb0 ho).1 (hold x hb0 ho).2,q4,q5⟩
  ·exact g.nx
  ·intro q hq;obtain⟨p1,p2⟩:=r.pin q hq;have:=g.pin q p1
   grind
 exact kk m' β' w' _ (r2.put hN hv)
def KD(t:TT)(e:cn)(hp:aH):ResultVar->Option V
 | .tmp x=>pu e x
 | .cell x T=>(match pu e x with
  |some (.ptr id k i o)=>(match pL hp id with
   |some (.arr _ k2 rows)=>(match Nat.beq k k2 with|true=>(match lJ rows i with|some row=>Cl t T row o|none=>none)|false=>none)
   |_=>none)
  |_=>none)
theorem Hz(ht:cQ K.P t){rv:ResultVar}{v:V}(h:KD t S.env S.hp rv=some v):kB K.P S rv v:=by
 cases rv with
 |tmp x=>exact .tmp (dN h)
 |cell x T=>
  simp only[KD] at h;split at h
  ·rename_i id k i o hx;split at h
   ·rename_i k2 rows ho;split at h
    ·rename_i hk;have hk:=cg9 hk;subst hk;split at h
     ·rename_i row hr;cases hn:dw t T TF.qA with
      |some n=>
       obtain⟨cs,rfl,hc,hd⟩:=rm hn h;exact .agg (Iq ht hn) (dN hx) (fI ho) (eK hr) (lU hc).1 (lU hc).2 hd
      |none=>
       obtain⟨hq,hc,hd⟩:=oO hn h;exact .cell (Ip ht hq) (dN hx) (fI ho) (eK hr) (eK hc) hd
     grind
    grind
   grind
  grind
def HA(t:TT)(e:cn)(hp:aH):List ResultVar->Option (List V)
 |[]=>some []
 |r::l=>(match KD t e hp r with|some v=>(match HA t e hp l with|some q=>some (v::q)|none=>none)|none=>none)
theorem zy(ht:cQ K.P t):∀{l:List ResultVar} {ds:List V},HA t S.env S.hp l=some ds->wV K.P S l ds
 |[],ds,h=>by simp[HA] at h;subst h;exact .nil
 |r::l,ds,h=>by
  simp only[HA] at h;split at h
  ·rename_i v hv;split at h
   ·rename_i q hq;simp at h;subst h;exact .cons (Hz ht hv) (zy ht hq)
   ·simp at h
  ·simp at h
abbrev FT:=List (Nat×Func)
def Jo(P:Program)(ft:FT):Prop:=∀p,p∈ft->P.funcs[p.1]? = some p.2/\cI P p.1=true
def O5(P:Program)(l:List Nat):FT:=l.filterMap fun f=>match P.funcs[f]? with|some g=>some (f,g)|none=>none
theorem Nk{P:Program}{ft:FT}(l:List Nat)(h:ft=O5 P l)(hB:l.all (cI P)=true):Jo P ft:=fun p hp=>by
 rw[h] at hp;obtain⟨f,hf,e⟩:=List.mem_filterMap.1 hp<;>grind
abbrev XT:=List (Nat×(List V->Option V))
def Lw(gl:Gl)(P:Program)(xt:XT):Prop:=∀p,p∈xt->cI P p.1=true/\∀avs v,p.2 avs=some v->dG gl P p.1 avs v
def M0(t:TT)(N:Nat)(ops:Array Oper)(e:cn)(o:Oper):Option (Nat×Nat×List V):=
 match qh N ops e o with
 |some d=>(match NC t e o.op with|some (f,avs)=>some (d,f,avs)|none=>none)
 |none=>none
def zg(t:TT):List Oper->Nat
 |[]=>0
 |o::l=>(match o.op with | .alloc _=>zg t l+1 | .box _ _=>zg t l+1 | .makeMap _ _=>zg t l+1 | .buildSlice _ _ _=>zg t l+1 | .makeSlice _ _ _=>zg t l+1 | .call c=>(match c.callee with | .value x=>(match x with | .func f=>(match dw t f TF.qR with|some n=>zg t l+n|none=>zg t l+12)|_=>zg t l+12) | .invoke _ _=>zg t l+12 | .builtin .append=>zg t l+2|_=>zg t l)|_=>zg t l)
def xk(ft:FT)(xt:XT)(t:TT)(mt:List MT):Nat->Nat->List It->St->Option St
 |0,_,_,_=>none
 |_+1,_,[],S=>some S
 |n+1,N,x::s,⟨e,hp,nx⟩=>
  match x with
  | .c .ret=>some ⟨e,hp,nx⟩
  | .c (.loop c)=>xk ft xt t mt n N (.c c::.c (.loop c)::s) ⟨e,hp,nx⟩
  | .c (.region _ ops true)=>
   (match My (fun f avs=>match lk xt f with
     |some g=>g avs
     |none=>(match lk ft f with
      |some fn=>(match fn.body with
       |some c=>(match Nat.ble avs.length fn.ntmps,CA 0 fn.results.toList (xk ft xt t mt n fn.ntmps [.c c] ⟨fZ 0 avs,[],0⟩) with
        |true,some ⟨e1,hp1,_⟩=>(match HA t e1 hp1 fn.results.toList with
         |some ds=>(match Fr (eC ds) with|true=>some (eC ds)|false=>none)
         |none=>none)
        |_,_=>none)
       |none=>none)
      |none=>none)) (fun f avs hp k=>match lk ft f with
      |some fn=>(match fn.body with
       |some c=>(match Nat.ble avs.length fn.ntmps,CA k fn.results.toList (xk ft xt t mt n fn.ntmps [.c c] ⟨fZ 0 avs,hp,k⟩) with
        |true,some ⟨e1,hp1,k1⟩=>(match HA t e1 hp1 fn.results.toList with
         |some ds=>some (eC ds,hp1,k1)
         |none=>none)
        |_,_=>none)
       |none=>none)
      |none=>none) t mt N ops ops.toList nx e (Em nx (zg t ops.toList) hp) (nx+zg t ops.toList) with
   |some (ds,e',hp')=>(match qo ops.toList ds with|true=>xk ft xt t mt n N s ⟨e',Bx nx (zg t ops.toList) hp',nx+zg t ops.toList⟩|false=>none)
   |none=>none)
  | .o ops (o::l)=>
   (match one t N ops o ⟨e,hp,nx⟩ with
   |some ⟨e',hp',nx'⟩=>xk ft xt t mt n N (.o ops l::s) ⟨Dz e',Dy hp',nx'⟩
   |none=>(match M0 t N ops e o with
    |some (d,f,avs)=>(match lk xt f with
     |some g=>(match g avs with|some v=>(match pi Fr avs with|true=>xk ft xt t mt n N (.o ops l::s) ⟨rX d v e,hp,nx⟩|false=>none)|none=>none)
     |none=>(match lk ft f with
      |some fn=>(match fn.body with
       |some c=>(match Nat.ble avs.length fn.ntmps,CA nx fn.results.toList (xk ft xt t mt n fn.ntmps [.c c] ⟨fZ 0 avs,hp,nx⟩) with
        |true,some ⟨e1,hp1,nx1⟩=>(match HA t e1 hp1 fn.results.toList with
         |some ds=>xk ft xt t mt n N (.o ops l::s) ⟨rX d (eC ds) e,hp1,nx1⟩
         |none=>none)
        |_,_=>none)
       |none=>none)
      |none=>none))
    |none=>(match qh N ops e o with
     |some d=>(match m7 t mt e hp nx o.op with|some (v,u,q)=>xk ft xt t mt n N (.o ops l::s) ⟨rX d v e,qc u hp,nx+q⟩|none=>(match o.guard,Pq t d e hp nx o.op with|none,some (ue,uh)=>xk ft xt t mt n N (.o ops l::s) ⟨uu ue e,qc uh hp,nx+2⟩|_,_=>none))
     |none=>(match o.dst,wt ops e o.guard with
      |none,some true=>(match Ov t mt e hp o.op with|some (id,ob)=>xk ft xt t mt n N (.o ops l::s) ⟨e,qw id ob hp,nx⟩|none=>none)
      |_,_=>none))))
  |x=>(match Ed t N (x::s) ⟨e,hp,nx⟩ with|some (s',S')=>xk ft xt t mt n N s' S'|none=>none)
theorem sM{d:Nat}{v:V}{e:cn}{hp:aH}{nx:Nat}:aU K ⟨(d,v)::e,hp,nx⟩ ⟨rX d v e,hp,nx⟩:=fun m β _ _ r=>⟨m,β,r.congr (lO d v e) (fun _=>rfl) rfl⟩
theorem z8{id:Nat}{ob:Ob}{e:cn}{hp:aH}{nx:Nat}:aU K ⟨e,(id,ob)::hp,nx⟩ ⟨e,qw id ob hp,nx⟩:=fun m β _ _ r=>⟨m,β,r.congr (fun _=>rfl) (mT id ob hp) rfl⟩
theorem z6{d:Nat}{v:V}{e:cn}{u hp:aH}{nx:Nat}:aU K ⟨(d,v)::e,u++hp,nx⟩ ⟨rX d v e,qc u hp,nx⟩:=fun m β _ _ r=>⟨m,β,r.congr (lO d v e) (kj u hp) rfl⟩
theorem yk{ue e:cn}{u hp:aH}{nx:Nat}:aU K ⟨ue++e,u++hp,nx⟩ ⟨uu ue e,qc u hp,nx⟩:=fun m β _ _ r=>⟨m,β,r.congr (pN ue e) (kj u hp) rfl⟩
theorem yh{S1 S2 S3:St}(h:aU K S1 S2)(h':aU K S2 S3):aU K S1 S3:=aU.trans h h'
theorem km:aU K S S:=fun m β _ _ r=>⟨m,β,r⟩
theorem OS{i:Nat}{s:List It}(h:WG K Q s S):WG K Q (.b i::s) S:=h
theorem Lh{gl:Gl}{P:Program}{ft:FT}{xt:XT}{mt:List MT}(hft:Jo P ft)(hxt:Lw gl P xt)(ht:cQ P t)(hmt:tm P mt)(hm:P.follows .mixedOrders=true):
  ∀(n:Nat) (K:de),K.P=P->K.gl=gl->∀(s:List It) (S S':St) (Q:cp),xk ft xt t mt n K.N s S=some S'->(∀S0,aU K S0 S'->∀e,(e=.ret\/e=.normal)->Q e S0)->∀S0,aU K S0 S->WG K Q s S0:=by
 intro n
 induction n with
 |zero=>simp_all[xk]
 |succ n ih=>
  -- a call by its text
  have call:∀(f:Nat) (fn:Func) (c:Code) (avs:List V) (hp hp1:aH) (nx nx1:Nat) (e1:cn) (ds:List V),P.funcs[f]? = some fn->fn.body=some c->Nat.ble avs.length fn.ntmps=true->
    CA nx fn.results.toList (xk ft xt t mt n fn.ntmps [.c c] ⟨fZ 0 avs,hp,nx⟩)=some ⟨e1,hp1,nx1⟩->HA t e1 hp1 fn.results.toList=some ds->hJ gl P f avs nx hp (eC ds) nx1 hp1:=by
   intro f fn c avs hp hp1 nx nx1 e1 ds q1 hb hle hrun hds;refine dj (l:=fn.results.toList) q1 hb Y (by simp) hle _ Y (fun w0 m0 β0 hg=>?_);obtain⟨S9,hr9,hf9⟩:=Cz hrun;refine ih (pJ gl P fn.ntmps nx hp w0 m0 β0 hg) Y Y [.c c] _ _ _ hr9 ?_ _ km;exact fun S0 hg e he=>⟨he,e1,aU.trans hg (by grind [K7]),zy (S:=⟨e1,hp1,nx1⟩) ht hds⟩
  intro K hP hgl s S S' Q h hQ S0 hg0;cases s with
  |nil=>simp only[xk,av8] at h;subst h;exact hQ _ hg0 _ (.inr Y)
  |cons x s=>
   obtain⟨e,hp,nx⟩:=S;have ha:Ag e ⟨e,hp,nx⟩:=wT (S:=⟨e,hp,nx⟩);have htK:cQ K.P t:=by rw[hP];exact ht
   have hmK:tm K.P mt:=by rw[hP];exact hmt
   simp only[xk] at h;split at h
   ·simp only[av8] at h;subst h;exact wC (iy (hQ _ hg0 _ (.inl Y)))
   ·exact aO hg0 (yE (ih K hP hgl _ _ _ _ h hQ _ km))
   ·split at h
    ·rename_i ds e' hp' hdr;split at h
     ·rename_i hok;refine aO hg0 (Lp ?_ ?_ htK hmK (by grind) hdr hok (fun S1 hg1=>ih K hP hgl _ _ _ _ h hQ _ (yh hg1 (Aa (FN _ _ _)))))
      ·intro f avs hp k v hp' k' hv;split at hv
       ·rename_i fn hfn;obtain⟨q1,q2⟩:=hft _ (lI hfn)<;>grind
       grind
      intro f avs v hv;split at hv
      ·rename_i g hg;obtain⟨q1,q2⟩:=hxt _ (lI hg)<;>simp_all
      ·split at hv
       ·rename_i fn hfn;obtain⟨q1,q2⟩:=hft _ (lI hfn)<;>grind [xU]
       grind
     grind
    grind
   ·rename_i ops o l;refine bi hg0 ?_;split at h
    ·rename_i e' hp' nx' h1;exact Ex htK h1 (ih K hP hgl _ _ _ _ h hQ _ zZ)
    ·split at h
     ·rename_i d f avs hop;unfold M0 at hop;split at hop
      ·rename_i d' hd;split at hop
       ·rename_i hc;simp only[av8,Prod.mk.injEq] at hop;obtain⟨rfl,rfl,rfl⟩:=hop;obtain⟨w1,w2,w3⟩:=kw ha hd;split at h
        ·rename_i g hg;split at h
         ·rename_i v hv;obtain⟨q1,q2⟩:=hxt _ (lI hg);split at h
          ·rename_i him
           exact iF w1 w2 w3 (fun m β w a r=>by
            obtain⟨vs,e1,e2⟩:=oZ htK ha hc (by grind) m β w a r;exact⟨vs,e1,⟨e2.len,fun i c v a b=>ki (kA him c (aw8 a)) (e2.at' i c v a b)⟩⟩) (by grind) (ih K hP hgl _ _ _ _ h hQ _ sM)
          grind
         grind
        ·split at h
         ·rename_i fn hfn;obtain⟨q1,q2⟩:=hft _ (lI hfn);split at h
          ·rename_i c hb;split at h
           ·rename_i e1 hp1 nx1 hle hrun;split at h
            ·rename_i ds hds;exact yJ w1 w2 w3 (oZ htK ha hc (by grind)) (by grind) (ih K hP hgl _ _ _ _ h hQ _ sM)
            grind
           grind
          grind
         grind
       grind
      grind
     ·split at h
      ·rename_i d hd;obtain⟨w1,w2,w3⟩:=kw ha hd;split at h
       ·rename_i v u q h1;obtain⟨dst,op,ty,pos,after,g⟩:=o;simp only at w2;subst w2;exact AY htK hmK ha (Ps (S:=⟨e,hp,nx⟩)) Y h1 w1 w3 (ih K hP hgl _ _ _ _ h hQ _ z6)
       ·split at h
        ·rename_i hgd h1;obtain⟨dst,op,ty,pos,after,g⟩:=o;simp only at w2;subst w2;exact Lu htK h1 hgd w3 (ih K hP hgl _ _ _ _ h hQ _ yk)
        grind
      ·split at h
       ·rename_i hdst hwt;have hw:=iW ha hwt;split at h
        ·rename_i id ob h1;obtain⟨dst,op,ty,pos,after,g⟩:=o;simp only at hdst;subst hdst;exact Dd htK hmK ha (Ps (S:=⟨e,hp,nx⟩)) h1 hw (ih K hP hgl _ _ _ _ h hQ _ z8)
        grind
       grind
   ·rename_i x4 n1 n2 n3 n4;split at h
    ·rename_i s' S2 h1;have k:=Ec (Q:=Q) htK h1 (ih K hP hgl _ _ _ _ h hQ _ km);cases x with
     |c x=>exact aO hg0 k
     |o ops l=>exact bi hg0 k
     |b i=>grind [Ed,OS]
     |j J=>simp[Ed] at h1
    grind
def Pb(ft:FT)(xt:XT)(t:TT)(mt:List MT)(n f:Nat)(avs:List V):Option V:=
 match lk ft f with
 |some fn=>(match fn.body with
  |some c=>(match Nat.ble avs.length fn.ntmps,xk ft xt t mt n fn.ntmps [.c c] ⟨fZ 0 avs,[],0⟩ with
   |true,some ⟨e1,hp1,_⟩=>(match HA t e1 hp1 fn.results.toList with
    |some ds=>(match Fr (eC ds) with|true=>some (eC ds)|false=>none)
    |none=>none)
   |_,_=>none)
  |none=>none)
 |none=>none
theorem Li{gl:Gl}{P:Program}{ft:FT}{xt:XT}{mt:List MT}(hft:Jo P ft)(hxt:Lw gl P xt)(ht:cQ P t)(hmt:tm P mt)(hm:P.follows .mixedOrders=true){n f:Nat}{avs:List V}{v:V}
  (h:Pb ft xt t mt n f avs=some v):dG gl P f avs v:=by
 unfold Pb at h;split at h
 ·rename_i fn hfn;obtain⟨q1,q2⟩:=hft _ (lI hfn);split at h
  ·rename_i c hb;split at h
   ·rename_i e1 hp1 nx1 hle hrun;split at h
    ·rename_i ds hds;split at h
     ·rename_i him;simp only[av8] at h;subst h;refine xU (k':=nx1) (hp':=hp1) ?_ him;refine dj (l:=fn.results.toList) q1 hb Y (by simp) hle _ Y (fun w0 m0 β0 hg=>?_);refine Lh hft hxt ht hmt hm n (pJ gl P fn.ntmps 0 [] w0 m0 β0 hg) Y Y [.c c] _ _ _ hrun ?_ _ km;exact fun S0 hg e he=>⟨he,e1,hg,zy (S:=⟨e1,hp1,nx1⟩) ht hds⟩
     grind
    grind
   grind
  grind
 grind
end
end Go.Pv
namespace Go.Proofs.YtelmfadihfcgnaaGreatDoor
open Go Go.Pv
set_option maxRecDepth 100000
noncomputable def Nx:FT:=[(11,Tryz.f11),(19,Tryz.f19),(30,Tryz.f30),(31,Tryz.f31),(32,Tryz.f32),(42,Tryz.f42),(43,Tryz.f43),(44,Tryz.f44),(50,Tryz.f50),(54,Tryz.f54),(60,Tryz.f60),(61,Tryz.f61),(62,Tryz.f62),(72,Tryz.f72),(74,Tryz.f74),(86,Tryz.f86),(87,Tryz.f87),(88,Tryz.f88),(100,Tryz.f100),(101,Tryz.f101),(102,Tryz.f102),(103,Tryz.f103),(104,Tryz.f104),(105,Tryz.f105),(106,Tryz.f106),(113,Tryz.f113),(116,Tryz.f116),(117,Tryz.f117),(118,Tryz.f118),(121,Tryz.f121),(128,Tryz.f128),(129,Tryz.f129),(130,Tryz.f130),(135,Tryz.f135),(136,Tryz.f136),(137,Tryz.f137),(138,Tryz.f138),(139,Tryz.f139),(140,Tryz.f140),(141,Tryz.f141),(142,Tryz.f142),(143,Tryz.f143),(144,Tryz.f144),(149,Tryz.f149),(150,Tryz.f150),(151,Tryz.f151),(162,Tryz.f162),(163,Tryz.f163),(164,Tryz.f164),(165,Tryz.f165),(190,Tryz.f190),(191,Tryz.f191),(192,Tryz.f192),(193,Tryz.f193),(194,Tryz.f194),(195,Tryz.f195),(196,Tryz.f196),(197,Tryz.f197),(207,Tryz.f207),(214,Tryz.f214),(224,Tryz.f224),(225,Tryz.f225),(226,Tryz.f226),(227,Tryz.f227),(234,Tryz.f234),(237,Tryz.f237),(239,Tryz.f239),(240,Tryz.f240),(241,Tryz.f241),(242,Tryz.f242),(243,Tryz.f243),(244,Tryz.f244),(245,Tryz.f245),(247,Tryz.f247),(248,Tryz.f248),(249,Tryz.f249),(250,Tryz.f250),(251,Tryz.f251),(252,Tryz.f252),(253,Tryz.f253),(254,Tryz.f254),(255,Tryz.f255),(256,Tryz.f256),(257,Tryz.f257),(258,Tryz.f258),(259,Tryz.f259),(260,Tryz.f260),(261,Tryz.f261),(262,Tryz.f262),(263,Tryz.f263),(264,Tryz.f264),(265,Tryz.f265),(281,Tryz.f281),(282,Tryz.f282),(283,Tryz.f283),(284,Tryz.f284),(285,Tryz.f285),(286,Tryz.f286),(287,Tryz.f287),(288,Tryz.f288),(289,Tryz.f289),(290,Tryz.f290),(291,Tryz.f291)]
theorem H5:Jo Tryz.prog Nx:=Nk [11,19,30,31,32,42,43,44,50,54,60,61,62,72,74,86,87,88,100,101,102,103,104,105,106,113,116,117,118,121,128,129,130,135,136,137,138,139,140,141,142,143,144,149,150,151,162,163,164,165,190,191,192,193,194,195,196,197,207,214,224,225,226,227,234,237,239,240,241,242,243,244,245,247,248,249,250,251,252,253,254,255,256,257,258,259,260,261,262,263,264,265,281,282,283,284,285,286,287,288,289,290,291] (by kernel_rfl) (by kernel_rfl)
def Nw:TT:=[(2,[.I .i64,.U]),(3,[.C,.S 1,.Z 1 [.int .i64 0],.I .i64,.U]),(4,[.S 1,.C]),(5,[.Z 1 [.int .u8 0],.I .u8,.U,.C,.S 1]),(9,[.Str,.C,.S 1,.Z 1 [.string ⟨#[]⟩],.U,.Cn]),(22,[.C,.El 9 1 16,.Sn,.Sl 1,.S 1]),(23,[.C,.Sn,.Sl 6,.El 25 6 88,.S 1]),(25,[.S 6,.A 6,.F 5 5,.Z 6 [.int .i64 0,.string ⟨#[]⟩,.slice none 0 0,.int .i64 0,.int .i64 0,.slice none 0 0],.F 0 0,.F 1 1,.F 2 2,.F 3 3,.F 4 4,.Pl [(0,1),(1,1),(2,1),(3,1),(4,1),(5,1)]]),(26,[.C,.Sn,.Sl 2]),(27,[.El 41 2 24,.C,.Sn,.Sl 2]),(29,[.Z 4 [.string ⟨#[]⟩,.string ⟨#[]⟩,.slice none 0 0,.slice none 0 0],.Pl [(0,1),(1,1),(2,1),(3,1)],.S 4,.F 0 0,.F 1 1,.F 2 2,.F 3 3,.A 4]),(30,[.C,.S 1]),(39,[.A 2,.Z 2 [.string ⟨#[]⟩,.string ⟨#[]⟩],.S 2,.F 0 0,.F 1 1]),(41,[.Z 2 [.string ⟨#[]⟩,.int .i64 0],.Pl [(0,1),(1,1)],.A 2,.S 2,.F 0 0,.F 1 1]),(46,[.C,.El 58 9 128,.Sn,.S 1,.Sl 9]),(47,[.C,.El 185 6 72,.Sn,.S 1,.Sl 6]),(49,[.Z 2 [.slice none 0 0,.slice none 0 0],.S 2,.A 2,.Pl [(0,1),(1,1)],.F 0 0,.F 1 1]),(50,[.El 29 4 80,.Sn,.Sl 4]),(51,[.C,.Sn,.Sl 1,.El 3 1 8,.S 1]),(54,[.Sn,.Sl 4,.El 61 4 32]),(58,[.Z 9 [.string ⟨#[]⟩,.string ⟨#[]⟩,.int .i64 0,.string ⟨#[]⟩,.slice none 0 0,.int .i64 0,.int .i64 0,.slice none 0 0,.int .i64 0],.A 9,.S 9,.F 0 0,.F 1 1,.F 2 2,.F 3 8,.Pl [(0,1),(1,1),(2,6),(8,1)]]),(61,[.F 3 3,.Z 4 [.int .i64 0,.int .i64 0,.int .i64 0,.int .i64 0],.Pl [(0,1),(1,1),(2,1),(3,1)],.S 4,.F 2 2,.A 4]),(75,[.Z 1 [.nilIface],.C]),(91,[.C]),(92,[.C,.Mn]),(94,[.A 2,.Z 2 [.map none,.map none],.Pl [(0,1),(1,1)],.S 2,.F 0 0,.F 1 1]),(98,[.Z 4 [.bool false,.bool false,.string ⟨#[]⟩,.int .i64 0],.S 4,.F 0 0,.F 2 2,.A 4,.F 1 1,.F 3 3]),(109,[.El 75 1 16,.Sn,.Sl 1,.C]),(115,[.Sn,.Sl 3,.El 197 3 40]),(147,[.Z 2 [.string ⟨#[]⟩,.slice none 0 0],.Pl [(0,1),(1,1)],.Cn,.S 2,.F 0 0,.F 1 1,.M "provender/policy.holds" 282]),(148,[.Z 2 [.string ⟨#[]⟩,.slice none 0 0],.Pl [(0,1),(1,1)],.Cn,.S 2,.F 0 0,.F 1 1,.M "provender/policy.holds" 283]),(150,[.Z 1 [.string ⟨#[]⟩],.Pl [(0,1)],.Cn,.S 1,.F 0 0,.M "provender/policy.holds" 285]),(152,[.Z 3 [.string ⟨#[]⟩,.int .i64 0,.int .i64 0],.Pl [(0,1),(1,1),(2,1)],.Cn,.S 3,.F 0 0,.F 1 1,.F 2 2,.M "provender/policy.holds" 286]),(154,[.Z 1 [.nilIface],.Pl [(0,1)],.Cn,.S 1,.F 0 0,.M "provender/policy.holds" 288]),(156,[.Z 1 [.slice none 0 0],.Pl [(0,1)],.Cn,.S 1,.F 0 0,.M "provender/policy.holds" 289]),(157,[.Z 1 [.slice none 0 0],.Pl [(0,1)],.Cn,.S 1,.F 0 0,.M "provender/policy.holds" 290]),(159,[.Z 0 [],.Pl [],.Cn,.S 0,.M "provender/policy.holds" 291]),(177,[.S 1,.C]),(179,[.F 0 0,.F 2 2,.Z 3 [.int .i64 0,.string ⟨#[]⟩,.int .i64 0],.Pl [(0,1),(1,1),(2,1)],.S 3,.F 1 1,.A 3]),(181,[.Z 7 [.string ⟨#[]⟩,.int .i64 0,.int .i64 0,.string ⟨#[]⟩,.int .i64 0,.int .i64 0,.int .i64 0],.Pl [(0,1),(1,1),(2,3),(5,1),(6,1)],.S 7,.F 2 2,.F 4 6,.F 3 5,.F 1 1,.F 0 0]),(185,[.Z 6 [.string ⟨#[]⟩,.string ⟨#[]⟩,.int .i64 0,.int .i64 0,.string ⟨#[]⟩,.int .i64 0],.A 6,.S 6,.F 2 2,.F 3 3,.F 5 5,.F 0 0,.Pl [(0,1),(1,1),(2,1),(3,1),(4,1),(5,1)],.F 1 1,.F 4 4]),(194,[.I .u64,.U]),(197,[.A 3,.Z 3 [.int .i64 0,.int .i64 0,.slice none 0 0],.S 3,.F 0 0,.F 1 1,.F 2 2,.Pl [(0,1),(1,1),(2,1)]]),(207,[.Z 4 [.bool false,.bool false,.bool false,.int .i64 0],.S 4,.F 0 0,.F 1 1,.F 2 2,.Pl [(0,1),(1,1),(2,1),(3,1)],.F 3 3]),(208,[.AA 9 4 207,.A 36,.Z 36 [.bool false,.bool false,.bool false,.int .i64 0,.bool false,.bool false,.bool false,.int .i64 0,.bool false,.bool false,.bool false,.int .i64 0,.bool false,.bool false,.bool false,.int .i64 0,.bool false,.bool false,.bool false,.int .i64 0,.bool false,.bool false,.bool false,.int .i64 0,.bool false,.bool false,.bool false,.int .i64 0,.bool false,.bool false,.bool false,.int .i64 0,.bool false,.bool false,.bool false,.int .i64 0],.Arr 9 4,.S 36]),(237,[.I .u32,.U]),(239,[.U,.I .u64,.C]),(257,[.U,.El 5 1 1,.Sn,.Sl 1]),(261,[.C]),(289,[.AC 6 9,.A 6,.Z 6 [.string ⟨#[]⟩,.string ⟨#[]⟩,.string ⟨#[]⟩,.string ⟨#[]⟩,.string ⟨#[]⟩,.string ⟨#[]⟩],.Arr 6 1,.S 6]),(291,[.Cn]),(294,[.Cn]),(303,[.Z 3 [.string ⟨#[]⟩,.string ⟨#[]⟩,.nilIface],.Pl [(0,1),(1,1),(2,1)],.S 3]),(308,[.Cn]),(310,[.Z 1 [.string ⟨#[]⟩],.Pl [(0,1)],.S 1]),(312,[.Z 24 [.int .u8 0,.int .u8 0,.int .u8 0,.int .u8 0,.int .u8 0,.int .u8 0,.int .u8 0,.int .u8 0,.int .u8 0,.int .u8 0,.int .u8 0,.int .u8 0,.int .u8 0,.int .u8 0,.int .u8 0,.int .u8 0,.int .u8 0,.int .u8 0,.int .u8 0,.int .u8 0,.int .u8 0,.int .u8 0,.int .u8 0,.int .u8 0],.Arr 24 1]),(317,[.Arr 20 1]),(318,[.Z 65 [.int .u8 0,.int .u8 0,.int .u8 0,.int .u8 0,.int .u8 0,.int .u8 0,.int .u8 0,.int .u8 0,.int .u8 0,.int .u8 0,.int .u8 0,.int .u8 0,.int .u8 0,.int .u8 0,.int .u8 0,.int .u8 0,.int .u8 0,.int .u8 0,.int .u8 0,.int .u8 0,.int .u8 0,.int .u8 0,.int .u8 0,.int .u8 0,.int .u8 0,.int .u8 0,.int .u8 0,.int .u8 0,.int .u8 0,.int .u8 0,.int .u8 0,.int .u8 0,.int .u8 0,.int .u8 0,.int .u8 0,.int .u8 0,.int .u8 0,.int .u8 0,.int .u8 0,.int .u8 0,.int .u8 0,.int .u8 0,.int .u8 0,.int .u8 0,.int .u8 0,.int .u8 0,.int .u8 0,.int .u8 0,.int .u8 0,.int .u8 0,.int .u8 0,.int .u8 0,.int .u8 0,.int .u8 0,.int .u8 0,.int .u8 0,.int .u8 0,.int .u8 0,.int .u8 0,.int .u8 0,.int .u8 0,.int .u8 0,.int .u8 0,.int .u8 0,.int .u8 0],.Arr 65 1]),(319,[.Arr 32 1]),(320,[.Arr 64 1])]
theorem H3:cQ Tryz.prog Nw:=MN (by kernel_rfl) (by kernel_rfl) ⟨⟨fun v args w=>by kernel_rfl,fun v w=>by kernel_rfl⟩,⟨fun v args w=>by kernel_rfl,fun v w=>by kernel_rfl⟩,⟨fun v args w=>by kernel_rfl,fun v w=>by kernel_rfl⟩,⟨fun v args w=>by kernel_rfl,fun v w=>by kernel_rfl⟩,⟨fun v args w=>by kernel_rfl,fun v w=>by kernel_rfl⟩,⟨fun v args w=>by kernel_rfl,fun v w=>by kernel_rfl⟩,⟨fun v args w=>by kernel_rfl,fun v w=>by kernel_rfl⟩,⟨fun v args w=>by kernel_rfl,fun v w=>by kernel_rfl⟩,trivial⟩
def Lg:List MT:=[⟨91,9,98,true,.i64,.agg [.con (.bool false),.con (.bool false),.con (.string ⟨#[]⟩),.con (.int .i64 0)]⟩,⟨92,9,4,true,.i64,.con (.bool false)⟩]
theorem H4:tm Tryz.prog Lg:=by
 intro p hp;simp only[Lg,aq8,List.not_mem_nil,or_false] at hp;rcases hp with rfl|rfl
 ·exact⟨by kernel_rfl,sB (by kernel_rfl),_,by kernel_rfl,fun _=>(Fl [Value.bool false,Value.bool false,Value.string ⟨#[]⟩,Value.int .i64 0])⟩
 ·exact⟨by kernel_rfl,sB (by kernel_rfl),_,by kernel_rfl,fun _=>(.con _)⟩
end Go.Proofs.YtelmfadihfcgnaaGreatDoor
