/- Part of the proof: EXB, EA, EXC, EC, EW. -/
import Derived.Test.YtelmfadihfcgnaaGreatDoorXEX
set_option linter.unusedSimpArgs false
set_option linter.unusedVariables false
namespace Go.Pv
open Go
section
variable{K:Ctx}{Q:q5l}{S S':St}{ops:Array Oper}{rest:List Oper}{t:TT}
def mpL(f:V->Option V):List V->Option (List V)
 |[]=>some []
 |x::l=>(match f x with|some y=>(match mpL f l with|some r=>some (y::r)|none=>none)|none=>none)
def mpV(f:Nat->Option Nat):Nat->V->Option V
 |0,_=>none
 |n+1,v=>(match v with
  | .con v=>some (.con v)
  | .agg cs=>(match mpL (mpV f n) cs with|some r=>some (.agg r)|none=>none)
  | .tup cs=>(match mpL (mpV f n) cs with|some r=>some (.tup r)|none=>none)
  | .fn g a b=>(match mpL (mpV f n) a,mpL (mpV f n) b with|some r,some q=>some (.fn g r q)|_,_=>none)
  | .ptr id k i o=>(match f id with|some j=>some (.ptr j k i o)|none=>none)
  | .own id l=>(match f id with|some j=>some (.own j l)|none=>none)
  | .map id=>(match f id with|some j=>some (.map j)|none=>none)
  |_=>none)
theorem v9x{f:V->Option V}:∀{l r:List V},mpL f l=some r->r.length=l.length/\∀(i:Nat) c c',l[i]? = some c->r[i]? = some c'->f c=some c'
 |[],r,h=>by simp[mpL] at h;subst h;simp
 |x::l,r,h=>by
  simp only[mpL] at h;split at h
  ·rename_i y hy;split at h
   ·rename_i q hq;simp at h;subst h;obtain⟨h1,h2⟩:=v9x hq;refine⟨by simp[h1],fun i c c' a b=>?_⟩;cases i with
    |zero=>simp at a b;subst a;subst b;exact hy
    |succ i=>exact h2 i c c' (by simpa using a) (by simpa using b)
   ·simp at h
  ·simp at h
theorem w2u{f:Nat->Option Nat}{m:Mem}{β β':q4h}(hf:∀i j,f i=some j->β' j=β i):∀{n:Nat} {v v':V} {x:Value},mpV f n v=some v'->q8i m β v x->q8i m β' v' x
 |0,v,v',x,h=>by simp[mpV] at h
 |n+1,v,v',x,h=>by
  intro hv
  have lst:∀{cs r:List V} {vs:Array Value},mpL (mpV f n) cs=some r->cs.length=vs.size->(∀(i:Nat) c v,cs[i]? = some c->vs[i]? = some v->q8i m β c v)->r.length=vs.size/\∀(i:Nat) c v,r[i]? = some c->vs[i]? = some v->q8i m β' c v:=by
   intro cs r vs hr hl hh;obtain⟨a1,a2⟩:=v9x hr;refine⟨a1.trans hl,fun i c v hc hx=>?_⟩;have hi:i<cs.length:=by rw[<-a1];exact(bf9.1 hc).1
   exact w2u hf (a2 i _ _ (bb9 hi) hc) (hh i _ v (bb9 hi) hx)
  cases v with
  |con c=>simp[mpV] at h;subst h;rw[hv.of_con];exact .imm (.con _)
  |agg cs=>
   simp only[mpV] at h;split at h
   ·rename_i r hr;simp at h;subst h;obtain⟨vs,rfl,h2,h3⟩:=j3q hv;obtain⟨b1,b2⟩:=lst hr h2 h3;exact .agg b1 b2
   ·simp at h
  |tup cs=>
   simp only[mpV] at h;split at h
   ·rename_i r hr;simp at h;subst h;cases hv with
    |imm hv=>cases hv with|tup hl hh=>obtain⟨b1,b2⟩:=lst hr hl (fun i c v a b=>.imm (hh i c v a b));exact .tup b1 b2
    |tup hl hh=>obtain⟨b1,b2⟩:=lst hr hl hh;exact .tup b1 b2
   ·simp at h
  |fn g a b=>
   simp only[mpV] at h;split at h
   ·rename_i r q hr hq;simp at h;subst h;cases hv with
    |imm hv=>cases hv with|fn hl hl' h1 h2=>obtain⟨b1,b2⟩:=lst hr hl (fun i c v a b=>.imm (h1 i c v a b));obtain⟨c1,c2⟩:=lst hq hl' (fun i c v a b=>.imm (h2 i c v a b));exact .fn b1 c1 b2 c2
    |fn hl hl' h1 h2=>obtain⟨b1,b2⟩:=lst hr hl h1;obtain⟨c1,c2⟩:=lst hq hl' h2;exact .fn b1 c1 b2 c2
   ·simp at h
  |ptr id k i o=>
   simp only[mpV] at h;split at h
   ·rename_i j hj;simp at h;subst h;cases hv with
    |imm hv=>cases hv
    |ptr hb=>exact .ptr (by rw[hf _ _ hj];exact hb)
   ·simp at h
  |own id l=>
   simp only[mpV] at h;split at h
   ·rename_i j hj;simp at h;subst h;cases hv with
    |imm hv=>cases hv
    |ownNil hb=>exact .ownNil (by rw[hf _ _ hj];exact hb)
    |own hb=>exact .own (by rw[hf _ _ hj];exact hb)
   ·simp at h
  |map id=>
   simp only[mpV] at h;split at h
   ·rename_i j hj;simp at h;subst h;cases hv with
    |imm hv=>cases hv
    |map hb=>exact .map (by rw[hf _ _ hj];exact hb)
   ·simp at h
  |_=>simp[mpV] at h
theorem w1l{f:Nat->Option Nat}{n:Nat}{v v':V}(h:mpV f n v=some v'):v.deep=false:=by
 cases n with
 |zero=>simp[mpV] at h
 |succ n=>cases v<;>first|rfl|simp[mpV] at h
def mpR(f:Nat->Option Nat):List (List V)->Option (List (List V))
 |[]=>some []
 |x::l=>(match mpL (mpV f 12) x with|some y=>(match mpR f l with|some r=>some (y::r)|none=>none)|none=>none)
def mpM(f:Nat->Option Nat):List (Value×V)->Option (List (Value×V))
 |[]=>some []
 |(k,x)::l=>(match mpV f 12 x with|some y=>(match mpM f l with|some r=>some ((k,y)::r)|none=>none)|none=>none)
def mpO(f:Nat->Option Nat):Ob->Option Ob
 | .dead=>some .dead
 | .arr e k rows=>(match mpR f rows with|some r=>some (.arr e k r)|none=>none)
 | .map es=>(match mpM f es with|some r=>some (.map r)|none=>none)
 | .res=>none
 | .iter _ _=>none
 | .bld _ _ _ _=>none
def w8g(Y:Hy)(f:Nat->Option Nat):Prop:=∀m β m' β',Y m β m' β'->m'=m/\∀i j,f i=some j->β' j=β i
theorem j4n{Y:Hy}{f:Nat->Option Nat}(hY:w8g Y f){n:Nat}{v v':V}(h:mpV f n v=some v'):Sub Y v' v:=fun m β m' β' x hy hx=>by
 obtain⟨rfl,hf⟩:=hY _ _ _ _ hy;exact w2u hf h hx
theorem v9j{Y:Hy}{f:Nat->Option Nat}(hY:w8g Y f){n:Nat}{v v':V}(h:mpV f n v=some v'):j1f Y v' v:=.sub (j4n hY h) (w1l h)
theorem w3u{f:Nat->Option Nat}:∀{l r:List (List V)},mpR f l=some r->r.length=l.length/\∀(i:Nat) c c',l[i]? = some c->r[i]? = some c'->mpL (mpV f 12) c=some c'
 |[],r,h=>by simp[mpR] at h;subst h;simp
 |x::l,r,h=>by
  simp only[mpR] at h;split at h
  ·rename_i y hy;split at h
   ·rename_i q hq;simp at h;subst h;obtain⟨h1,h2⟩:=w3u hq;refine⟨by simp[h1],fun i c c' a b=>?_⟩;cases i with
    |zero=>simp at a b;subst a;subst b;exact hy
    |succ i=>exact h2 i c c' (by simpa using a) (by simpa using b)
   ·simp at h
  ·simp at h
theorem w4u{f:Nat->Option Nat}:∀{l r:List (Value×V)},mpM f l=some r->r.length=l.length/\∀(i:Nat) c c',l[i]? = some c->r[i]? = some c'->c'.1=c.1/\mpV f 12 c.2=some c'.2
 |[],r,h=>by simp[mpM] at h;subst h;simp
 |(k,x)::l,r,h=>by
  simp only[mpM] at h;split at h
  ·rename_i y hy;split at h
   ·rename_i q hq;simp at h;subst h;obtain⟨h1,h2⟩:=w4u hq;refine⟨by simp[h1],fun i c c' a b=>?_⟩;cases i with
    |zero=>simp at a b;subst a;subst b;exact⟨rfl,hy⟩
    |succ i=>exact h2 i c c' (by simpa using a) (by simpa using b)
   ·simp at h
  ·simp at h
theorem v8x{Y:Hy}{f:Nat->Option Nat}(hY:w8g Y f){ob ob':Ob}(h:mpO f ob=some ob'):q5a Y ob' ob:=by
 cases ob with
 |dead=>simp[mpO] at h;subst h;trivial
 |res=>simp[mpO] at h
 |iter c l=>simp[mpO] at h
 |bld T e l=>simp[mpO] at h
 |arr e k rows=>
  simp only[mpO] at h;split at h
  ·rename_i r hr;simp at h;subst h;obtain⟨h1,h2⟩:=w3u hr;refine⟨rfl,rfl,h1,fun i r' r0 a b=>?_⟩;obtain⟨q1,q2⟩:=v9x (h2 i _ _ b a);exact⟨q1,fun j c c' x y=>v9j hY (q2 j _ _ y x)⟩
  ·simp at h
 |map es=>
  simp only[mpO] at h;split at h
  ·rename_i r hr;simp at h;subst h;obtain⟨h1,h2⟩:=w4u hr;refine⟨h1,fun i p p' a b=>?_⟩;obtain⟨q1,q2⟩:=h2 i _ _ b a;exact⟨q1,v9j hY q2⟩
  ·simp at h
theorem v0k{Y:Hy}{f:Nat->Option Nat}(hY:w8g Y f){n:Nat}:∀{l r:List V},mpL (mpV f n) l=some r->j8d Y r l
 |[],r,h=>by simp[mpL] at h;subst h;exact .nil
 |x::l,r,h=>by
  simp only[mpL] at h;split at h
  ·rename_i y hy;split at h
   ·rename_i q hq;simp at h;subst h;exact .cons (j4n hY hy) (v0k hY hq)
   ·simp at h
  ·simp at h
def y9b(f:V->List Nat):List V->List Nat
 |[]=>[]
 |x::l=>f x++y9b f l
def w9u:Nat->V->List Nat
 |0,_=>[]
 |n+1,v=>(match v with
  | .agg cs=>y9b (w9u n) cs
  | .tup cs=>y9b (w9u n) cs
  | .fn _ a b=>y9b (w9u n) a++y9b (w9u n) b
  | .ptr id _ _ _=>[id]
  | .own id _=>[id]
  | .map id=>[id]
  |_=>[])
def idsR:List (List V)->List Nat
 |[]=>[]
 |r::l=>y9b (w9u 12) r++idsR l
def idsM:List (Value×V)->List Nat
 |[]=>[]
 |p::l=>w9u 12 p.2++idsM l
def idsO:Ob->List Nat
 | .arr _ _ rows=>idsR rows
 | .map es=>idsM es
 |_=>[]
def v9i(hp:q8d):Nat->List Nat->List Nat->Option (List Nat)
 |0,_,_=>none
 |n+1,l,acc=>(match l with
  |[]=>some acc
  |i::l=>(match v2p i acc with
   |false=>v9i hp n l acc
   |true=>v9i hp n (idsO (q7b hp i)++l) (acc++[i])))
def w6g:List Nat->Nat->Nat->Option Nat
 |[],_,_=>none
 |x::l,j,i=>bif Nat.beq x i then some j else w6g l (j+1) i
theorem v8e:∀{l:List Nat} {j i r:Nat},w6g l j i=some r->∃q,r=j+q/\lgt l q=some i
 |x::l,j,i,r,h=>by
  simp only[w6g] at h;cases hb:Nat.beq x i with
  |true=>rw[hb] at h;simp at h;exact⟨0,h.symm,by rw[co9 hb];rfl⟩
  |false=>
   rw[hb] at h;simp at h;obtain⟨q,h1,h2⟩:=v8e h;exact⟨q+1,by omega,h2⟩
 |[],j,i,r,h=>by simp[w6g] at h
def inH(f:Nat->Option Nat)(hp:q8d):Nat->List Nat->Option (q8d×q8d)
 |_,[]=>some ([],[])
 |j,i::l=>(match mpO f (q7b hp i) with
  |some ob=>(match inH f hp (j+1) l with|some (h,r)=>some ((j,ob)::h,(i,q7b hp i)::r)|none=>none)
  |none=>none)
theorem w2a{Y:Hy}{f:Nat->Option Nat}(hY:w8g Y f){hp hpS:q8d}{R0:List Nat}:∀{l:List Nat} {j:Nat} {h r:q8d},(∀q i,lgt l q=some i->lgt R0 (j+q)=some i)->inH f hp j l=some (h,r)->RdH hpS r->
  q5j Y R0.length (sg R0) hpS h
 |[],j,h,r,hR,hh,hr=>by simp[inH] at hh;obtain⟨rfl,rfl⟩:=hh;exact .nil
 |i::l,j,h,r,hR,hh,hr=>by
  simp only[inH] at hh;split at hh
  ·rename_i ob ho;split at hh
   ·rename_i h' r' hq;simp at hh;obtain⟨rfl,rfl⟩:=hh;have h0:=hR 0 i rfl;obtain⟨a1,a2⟩:=z0n h0;simp only[bh8] at a1 a2;refine .cons a1 ?_ (w2a hY (fun q i' hq'=>by have:=hR (q+1) i' hq';rwa [show j+(q+1)=j+1+q by omega] at this) hq hr.2);rw[a2,hr.1];exact v8x hY ho
   ·simp at hh
  ·simp at hh
theorem w1a{f:Nat->Option Nat}{hp:q8d}:∀{l:List Nat} {j:Nat} {h r:q8d},inH f hp j l=some (h,r)->RdH hp r
 |[],j,h,r,hh=>by simp[inH] at hh;obtain⟨rfl,rfl⟩:=hh;trivial
 |i::l,j,h,r,hh=>by
  simp only[inH] at hh;split at hh
  ·split at hh
   ·rename_i h' r' hq;simp at hh;obtain⟨rfl,rfl⟩:=hh;exact⟨rfl,w1a hq⟩
   ·simp at hh
  ·simp at hh
def y5o(f:Nat->Option Nat)(hp':q8d):Nat->List Nat->Option q8d
 |_,[]=>some []
 |j,i::l=>(match mpO f (q7b hp' j) with
  |some ob=>(match y5o f hp' (j+1) l with|some u=>some ((i,ob)::u)|none=>none)
  |none=>none)
theorem v3w{Y:Hy}{f:Nat->Option Nat}(hY:w8g Y f){hp':q8d}{R0:List Nat}:∀{l:List Nat} {j:Nat} {u:q8d},(∀q i,lgt l q=some i->lgt R0 (j+q)=some i)->j+l.length=R0.length->y5o f hp' j l=some u->j1s Y (sg R0) hp' R0.length j u
 |[],j,u,hR,hl,h=>by simp[y5o] at h;subst h;simp at hl;subst hl;exact .nil
 |i::l,j,u,hR,hl,h=>by
  simp only[y5o] at h;split at h
  ·rename_i ob ho;split at h
   ·rename_i u' hu;simp at h;subst h;have h0:=hR 0 i rfl;obtain⟨a1,a2⟩:=z0n h0;simp only[bh8] at a1 a2;exact .cons a2 (v8x hY ho) (v3w hY (fun q i' hq'=>by have:=hR (q+1) i' hq';rwa [show j+(q+1)=j+1+q by omega] at this) (by simp at hl;omega) hu)
   ·simp at h
  ·simp at h
def j9t(fr:Nat):Nat->List Nat
 |0=>[]
 |n+1=>fr::j9t (fr+1) n
def y3o:List Nat->q8d->Bool
 |[],_=>true
 |i::l,hp=>(match hgC hp i with|some .res=>y3o l hp|_=>false)
def y4y(l:List Nat):q8d:=l.map fun i=>(i,.res)
theorem v0d:∀{l:List Nat} {hp:q8d},y3o l hp=true->RdH hp (y4y l)
 |[],hp,_=>trivial
 |i::l,hp,h=>by
  simp only[y3o] at h;split at h
  ·rename_i ho;exact⟨q8v ho,v0d h⟩
  ·simp at h
theorem z8z{hp:q8d}:∀{a b:q8d},RdH hp (a++b)<->RdH hp a/\RdH hp b
 |[],b=>by simp[RdH]
 |(i,o)::a,b=>by
  have:=z8z (hp:=hp) (a:=a) (b:=b);simp only[List.cons_append,RdH,this,and_assoc]
theorem v1d:∀{l:List Nat} {hp:q8d},RdH hp (y4y l)->∀i,i∈l->q7b hp i=.res
 |[],_,_,i,hi=>by simp at hi
 |j::l,hp,h,i,hi=>by
  rcases at8.1 hi with rfl|hi
  ·exact h.1
  ·exact v1d (l:=l) h.2 i hi
theorem j4m:∀{n fr i:Nat},i∈j9t fr n<->fr<=i/\i<fr+n
 |0,fr,i=>by simp[j9t]
 |n+1,fr,i=>by simp only[j9t,at8,j4m (n:=n)];omega
theorem v6y{R:List Nat}{j i:Nat}(h:lgt R j=some i):sg R j=i/\j<R.length:=by
 obtain⟨a,b⟩:=z0n h;exact⟨b,az8 a⟩
def clB(cb:Nat->List V->q8d->Nat->Option (V×q8d×Nat))(f:Nat)(avs:List V)(hp:q8d)(fr nx:Nat):Option (V×q8d×q8d×Nat):=
 match v9i hp 2000 (y9b (w9u 12) avs) [] with
 |some R=>(match mpL (mpV (w6g R 0) 12) avs with
  |some avs'=>(match inH (w6g R 0) hp 0 R with
   |some (hpc,rh)=>(match cb f avs' hpc R.length with
    |some (dc,hp',k')=>
     let nw:=j9t fr (k' - R.length)
     let ρ:=R++nw
     (match Nat.ble R.length k'&&y3o nw hp&&toB R.length k' nx nx (sg R) (sg ρ) (fun i=>Nat.ble fr i&&Nat.blt i (fr+(k' - R.length)))&&w0a k' (sg ρ) with
     |true=>(match mpV (lgt ρ) 12 dc with
      |some dv=>(match y5o (lgt ρ) hp' 0 ρ with
       |some u=>some (dv,rh++y4y nw,u,fr+(k' - R.length))
       |none=>none)
      |none=>none)
     |false=>none)
    |none=>none)
   |none=>none)
  |none=>none)
 |none=>none
theorem y3s{cb:Nat->List V->q8d->Nat->Option (V×q8d×Nat)}(hcb:∀f avs hp k v hp' k',cb f avs hp k=some (v,hp',k')->q7o K.P f=true/\z9y K.gl K.P f avs k hp v k' hp'){f:Nat}{avs:List V}{hp rh u:q8d}{fr fr' nx d:Nat}{dv:V}
  (h:clB cb f avs hp fr nx=some (dv,rh,u,fr')) (hpin:K.pins<=fr) (ht:q7p K.P t) {o:Oper} {e:Env} (hc:clX t e o.op=some (f,avs)) (hdst:o.dst=some d) (hN:Nat.blt d K.N=true):
  RdH hp rh/\fr<=fr'/\∀S,S.nx=nx->Ag e S->RdH S.hp rh->q2d ops S o true->q1d K ops rest Q ⟨(d,dv)::S.env,u++S.hp,S.nx⟩->q1d K ops (o::rest) Q S:=by
 unfold clB at h;split at h
 ·rename_i R hR;split at h
  ·rename_i avs' ha;split at h
   ·rename_i hpc rh0 hin;split at h
    ·rename_i dc hp' k' hcall;obtain⟨q1,q2⟩:=hcb _ _ _ _ _ _ _ hcall;simp only at h;split at h
     ·rename_i hb;simp only[as9] at hb;obtain⟨⟨⟨b1,b2⟩,b3⟩,b4⟩:=hb;have b1':=az8 b1;split at h
      ·rename_i dv' hdv;split at h
       ·rename_i u' hu;simp only[az9,Prod.mk.injEq] at h;obtain⟨rfl,rfl,rfl,rfl⟩:=h
        have hl:(R++j9t fr (k' - R.length)).length=k':=by
         have:∀n fr,(j9t fr n).length=n:=by intro n;induction n with|zero=>intro _;rfl|succ n ih=>intro fr;simp[j9t,ih]
         simp[this];omega
        have hYR:w8g (Ren R.length (sg R)) (w6g R 0):=by
         rintro m β m' β' ⟨rfl,hy⟩
         refine⟨rfl,fun i j hij=>?_⟩;obtain⟨q,e1,e2⟩:=v8e hij;obtain⟨s1,s2⟩:=v6y e2;rw[show j=q by omega,hy q s2,s1]
        have hYT:w8g (To k' (sg (R++j9t fr (k' - R.length)))) (lgt (R++j9t fr (k' - R.length))):=by
         rintro m β m' β' ⟨rfl,hy⟩
         refine⟨rfl,fun i j hij=>?_⟩;obtain⟨s1,s2⟩:=v6y hij;rw[<-s1,hy i (by rw[<-hl];exact s2)]
        refine⟨z8z.2 ⟨w1a hin,v0d b2⟩,bf8 _ _,fun S hn hag hrd hw kk=>?_⟩;obtain⟨r1,r2⟩:=z8z.1 hrd
        have hun:j1s (To k' (sg (R++j9t fr (k' - R.length)))) (sg (R++j9t fr (k' - R.length))) hp' k' 0 u':=by
         have:=v3w (R0:=R++j9t fr (k' - R.length)) hYT (j:=0) (fun q i h=>by rw[ch8];exact h) (by simp) hu;rw[hl] at this;exact this
        refine z7a (sg R) (sg (R++j9t fr (k' - R.length))) S.nx u' _ hw hdst hN (z7y ht hag hc q1) (v0k hYR ha) (q5j.get (w2a hYR (fun q i h=>by rw[ch8];exact h) hin r1)) q2 (fun i hi=>?_) (by rw[hn];exact b3) b4
         (cp9 (ae8 _)) b1 (fun i hi=>?_) (j4n hYT hdv) hun kk
        ·simp only[as9] at hi;exact v1d r2 i (j4m.2 ⟨az8 hi.1,az8 hi.2⟩)
        ·simp only[as9] at hi;exact bz9 hpin (az8 hi.1)
       ·simp at h
      ·simp at h
     ·simp at h
    ·simp at h
   ·simp at h
  ·simp at h
 ·simp at h
def ltH(nx:Nat):q8d->q8d
 |[]=>[]
 |(i,o)::l=>bif Nat.blt i nx then (i,o)::ltH nx l else ltH nx l
def y7a(hp:q8d):Nat->Nat->q8d->q8d
 |_,0,r=>r
 |i,n+1,r=>(match q7b hp i with | .res=>y7a hp (i+1) n r | .dead=>y7a hp (i+1) n r|o=>(i,o)::y7a hp (i+1) n r)
def w9n(nx n:Nat)(hp:q8d):q8d:=y7a hp nx n (ltH nx hp)
theorem y7d(i n:Nat){α:Type}(a b:α):(bif Nat.blt i n then a else b)=if i<n then a else b:=by
 by_cases h:i<n
 ·have:Nat.blt i n=true:=cp9 h;simp[this,h]
 ·have:Nat.blt i n=false:=by cases hb:Nat.blt i n;rfl;exact absurd (az8 hb) h
  simp[this,h]
theorem w5u(nx:Nat):∀(l:q8d) (t:Nat),q7b (ltH nx l) t=if t<nx then q7b l t else .dead
 |[],t=>by simp[ltH,q7b]
 |(i,o)::l,t=>by
  have ih:=w5u nx l t;simp only[ltH,y7d];split
  ·rename_i h;rw[q0b,q0b,ih];split
   ·rename_i e;subst e;rw[if_pos h]
   ·rfl
  ·rename_i h;rw[ih,q0b];split
   ·rename_i h2;rw[if_neg];intro e;subst e;exact h h2
   ·rfl
theorem v2w(hp:q8d):∀(n i:Nat) (r:q8d) (t:Nat),q7b (y7a hp i n r) t=q7b r t\/(i<=t/\q7b (y7a hp i n r) t=q7b hp t)
 |0,i,r,t=>.inl rfl
 |n+1,i,r,t=>by
  have ih:=v2w hp n (i+1) r t;simp only[y7a];split
  ·rcases ih with h|⟨h1,h2⟩
   ·exact .inl h
   ·exact .inr ⟨by omega,h2⟩
  ·rcases ih with h|⟨h1,h2⟩
   ·exact .inl h
   ·exact .inr ⟨by omega,h2⟩
  ·rw[q0b];split
   ·rename_i e;subst e;exact .inr ⟨ae8 _,rfl⟩
   ·rcases ih with h|⟨h1,h2⟩
    ·exact .inl h
    ·exact .inr ⟨by omega,h2⟩
theorem w8n(nx n:Nat)(hp:q8d)(t:Nat):q7b (w9n nx n hp) t=q7b hp t\/q7b (w9n nx n hp) t=.dead:=by
 unfold w9n;rcases v2w hp n nx (ltH nx hp) t with h|⟨_,h⟩
 ·rw[h,w5u];split
  ·exact .inl rfl
  ·exact .inr rfl
 ·exact .inl h
theorem Rel.less{m:Mem}{β:q4h}{w:World}{a:Act}(r:Rel K m β w a S){hp:q8d}(h:∀t,q7b hp t=q7b S.hp t\/q7b hp t=.dead):Rel K m β w a ⟨S.env,hp,S.nx⟩:=by
 have hl:∀i,q7b hp i≠.dead->q7b S.hp i≠.dead:=fun i hi=>by rcases h i with e|e;rw[<-e];exact hi;exact absurd e hi
 constructor
 ·exact r.imm
 ·exact r.ext
 ·exact r.mold
 ·exact r.frame
 ·exact r.size
 ·exact r.same
 ·exact r.tn
 ·exact r.df
 ·exact r.env
 ·intro id
  show q9h m β w _ _ (q7b hp id)
  rcases h id with e|e
  ·rw[e];exact r.own id
  ·rw[e];exact q9h.dead' _
 ·exact fun id b cap hi=>r.priv id b cap (hl id hi)
 ·exact fun id id' b cap cap' hi hi'=>r.inj id id' b cap cap' (hl id hi) (hl id' hi')
 ·exact fun id x hi hx=>(r.hid id x (hl id hi) hx).weak hl
 ·exact r.nx
 ·exact r.pin
theorem v2q{e:Env}{hp hp':q8d}{nx:Nat}(h:∀t,q7b hp' t=q7b hp t\/q7b hp' t=.dead):q4e K ⟨e,hp,nx⟩ ⟨e,hp',nx⟩:=fun m β _ _ r=>⟨m,β,r.less h⟩
end
section
variable{K:Ctx}{Q:q5l}{S S':St}{ops:Array Oper}{rest:List Oper}{t:TT}{ty:TypeId}{pos:String}{after:Array Edge}{g:Option (Nat×Bool)}
theorem j9w(u q e k:Nat)(ht:get S.env u=nV)(hq:q7b S.hp q=.res)(hlt:q<S.nx)(hpin:K.pins<=q):q4e K S ⟨(u,.own q 0)::S.env,(q,.arr e k [])::S.hp,S.nx⟩:=by
 intro m β w a r;have hf:β q=none:=r.free hq
 let β':q4h:=⟨fun i=>if i=q then some none else β i,fun i=>if i=q then fun _=>False else β.hid i⟩
 have hq':β' q=some none:=by show(if q=q then _ else _)=_;rw[if_pos rfl]
 have ho:∀i,i≠q->β' i=β i:=fun i h=>by show(if i=q then _ else _)=_;rw[if_neg h]
 have hle:β.le β':=fun i l h=>by
  have:i≠q:=fun e=>by subst e;rw[hf] at h;simp at h
  rw[ho i this];exact h
 have hn:β'.hid q=fun _=>False:=by show(if _ then _ else _)=_;rw[if_pos rfl]
 have hho:∀i,i≠q->β'.hid i=β.hid i:=fun i h=>by show(if _ then _ else _)=_;rw[if_neg h]
 have hlive:∀i,i≠q->q7b ((q,Ob.arr e k [])::S.hp) i≠.dead->q7b S.hp i≠.dead:=by
  intro i h hi;rw[q0b,if_neg (Ne.symm h)] at hi;exact hi
 refine⟨m,β',r.imm,r.ext,r.mold,r.frame,r.size,r.same,r.tn,r.df,?_,?_,?_,?_,?_,fun id h=>(ho id (by have:S.nx<=id:=h;omega)).trans (r.nx id h),fun p hp=>⟨(r.pin p hp).1,(ho p (by omega)).trans (r.pin p hp).2⟩⟩
 ·intro i
  show q8i m β' (get ((u,.own q 0)::S.env) i) _
  rw[q4k];split
  ·rename_i h;subst h;have:=r.env u;rw[ht] at this;rw[this.of_con];exact .ownNil hq'
  ·exact(r.env i).mono (Mem.le_refl _) hle
 ·intro id
  show q9h m β' w (β'.hid id) (β' id) (q7b ((q,Ob.arr e k [])::S.hp) id)
  rw[q0b];split
  ·rename_i h;subst h;rw[hq'];simp[q9h]
  ·rename_i h;rw[hho id (Ne.symm h),ho id (Ne.symm h)];exact q9h.mono (Mem.le_refl _) hle (fun _ _ h=>h) (fun _ _=>rfl) (r.own id)
 ·intro id b cap hl hb;by_cases h:id=q
  ·subst h;rw[hq'] at hb;simp at hb
  ·rw[ho id h] at hb;exact r.priv id b cap (hlive id h hl) hb
 ·intro id id' b c c' hl hl' hb hb';by_cases h:id=q
  ·subst h;rw[hq'] at hb;simp at hb
  ·by_cases h':id'=q
   ·subst h';rw[hq'] at hb';simp at hb'
   ·rw[ho id h] at hb;rw[ho id' h'] at hb';exact r.inj id id' b c c' (hlive id h hl) (hlive id' h' hl') hb hb'
 ·intro id x hl hx;by_cases h:id=q
  ·subst h;rw[hn] at hx;exact hx.elim
  ·rw[hho id h] at hx;have z:=r.hid id x (hlive id h hl) hx;refine⟨z.lt,z.m,z.old,fun i b c hi hb=>?_,fun i hi hx'=>?_⟩
   ·by_cases h':i=q
    ·subst h';rw[hq'] at hb;simp at hb
    ·rw[ho i h'] at hb;exact z.ne i b c (hlive i h' hi) hb
   ·by_cases h':i=q
    ·subst h';rw[hn] at hx';exact hx'.elim
    ·rw[hho i h'] at hx';exact z.un i (hlive i h' hi) hx'
theorem z7s{d T T' e k bytes n' nx u:Nat}{x:Operand}{sv:V}(idn q:Nat)(hid:(Nat.blt idn nx&&Nat.ble K.pins idn)=true)(hidq:(Nat.blt q nx&&Nat.ble K.pins q)=true)(hne:idn≠q)(hnxx:S.nx=nx)(hres:q7b S.hp idn=.res)(hresq:q7b S.hp q=.res)(rows2:List (List V))(hT:z0i K.P T e k bytes=true)(hT':q3k K.P T'=true)
  (hpos:Nat.blt 0 bytes=true) (hkp:Nat.blt 0 k=true)
  (hw:q2d ops S ⟨some d,.call ⟨.builtin .append,#[.tmp u,x],#[T,T']⟩,ty,pos,after,none⟩ true)
  (hs:get S.env u=nV) (hx:evl K ⟨(u,.own q 0)::S.env,(q,.arr e k [])::S.hp,S.nx⟩ x=sv) (hsrc:Src ⟨(u,.own q 0)::S.env,(q,.arr e k [])::S.hp,S.nx⟩ k sv rows2)
  (hn':rows2.length=n') (hb:n'*bytes<=140737488355328) (hN:Nat.blt d K.N=true)
  (kk:q1d K ops rest Q ⟨(d,.own idn n')::(u,.any)::S.env,(idn,.arr e k rows2)::(q,.dead)::S.hp,S.nx⟩):
  q1d K ops (⟨some d,.call ⟨.builtin .append,#[.tmp u,x],#[T,T']⟩,ty,pos,after,none⟩::rest) Q S:=by
 simp only[as9] at hidq;refine q7d (j9w u q e k hs hresq (by rw[hnxx];exact az8 hidq.1) (az8 hidq.2)) ?_;refine q4g (S:=⟨(u,.own q 0)::S.env,(q,.arr e k [])::S.hp,S.nx⟩) (id:=q) (n:=0) (rows:=[]) idn hid hnxx (by rw[q0b,if_neg (Ne.symm hne)];exact hres) rows2 rows2 hT hT' hpos hkp rfl (by show get ((u,.own q 0)::S.env) u=_;rw[q4k,if_pos rfl]) (by rw[q0b,if_pos rfl]) rfl hx hsrc rfl hn' hb hN ?_;refine q7d (j8a ((d,.own idn n')::(u,.any)::S.env) ((idn,.arr e k rows2)::(q,.dead)::S.hp) (fun i=>?_) (fun i=>?_)) kk
 ·show Sub Idn (get ((d,.own idn n')::(u,.any)::S.env) i) (get ((d,.own idn n')::(u,.own q 0)::S.env) i)
  simp only[q4k]
  repeat' split
  all_goals first|exact Sub.keepI|exact Sub.any
 ·show q5a Idn (q7b ((idn,.arr e k rows2)::(q,.dead)::S.hp) i) (q7b ((idn,.arr e k rows2)::(q,.dead)::(q,.arr e k [])::S.hp) i)
  simp only[q0b]
  repeat' split
  all_goals first|trivial|exact q5a.keep (fun _=>Sub.keepI) _
def srcY(k:Nat)(e:Env)(hp:q8d)(y:Operand):Option (List (List V)):=match evC e y with
 |some (.own id2 n2)=>(match hgC hp id2 with
  |some (.arr _ k3 rows2)=>(match Nat.beq k3 k&&Nat.beq rows2.length n2&&ndR rows2 with|true=>some rows2|false=>none)
  |_=>none)
 |some (.con (.slice none 0 0))=>some []
 |_=>none
theorem y1a{k:Nat}{e:Env}{hp:q8d}{y:Operand}{rows2:List (List V)}(h:srcY k e hp y=some rows2)(ha:Ag e S)(hh:AgH hp S):Src S k (evl K S y) rows2:=by
 unfold srcY at h;split at h
 ·rename_i id2 n2 hy;split at h
  ·rename_i k3 rows3 ho;split at h
   ·rename_i hb;simp only[as9] at hb;simp only[az9] at h;subst h;have e4:=co9 hb.1.1;subst e4;rw[q0d ha hy]
    exact .own (hh _ _ ho) (co9 hb.1.2) (fun row hr c hc=>by
     obtain⟨j,hj⟩:=be8 hc;exact z9n (j3v hb.2 row hr) hj)
   ·simp at h
  ·simp at h
 ·rename_i hy;simp only[az9] at h;subst h;rw[q0d ha hy];exact .nil
 ·simp at h
def apY(t:TT)(d:Nat)(e:Env)(hp:q8d)(fr:Nat):Op->Option (Env×q8d×Nat)
 | .call c=>(match c.callee,c.args.toList,c.argTypes.toList with
  | .builtin .append,[.tmp a,y],[T,T']=>(match ask t T TF.qEl,ask t T' TF.qSn with
   |some (ety,k,bytes),some _=>(match Nat.blt 0 bytes&&Nat.blt 0 k with
    |true=>(match srcY k e hp y with
     |some rows2=>(match gtC e a with
      |some (.own id n)=>(match hgC hp id with
       |some (.arr e2 k2 rows)=>(match Nat.beq ety e2&&Nat.beq k k2&&Nat.beq rows.length n&&Nat.ble ((rows++rows2).length*bytes) 140737488355328 with
        |true=>some ([(d,.own fr (rows++rows2).length)],[(fr,.arr ety k (rows++rows2)),(id,.dead)],1)
        |false=>none)
       |_=>none)
      |some (.con (.slice none 0 0))=>(match Nat.ble (rows2.length*bytes) 140737488355328&&(match y with | .tmp b=>bif Nat.beq b a then false else true|_=>true) with
       |true=>some ([(d,.own fr rows2.length),(a,.any)],[(fr,.arr ety k rows2),(fr+1,.dead)],2)
       |false=>none)
      |_=>none)
     |none=>none)
    |false=>none)
   |_,_=>none)
  |_,_,_=>none)
 |_=>none
theorem y8n{k u q e:Nat}{sv:V}{rows2:List (List V)}(h:Src S k sv rows2)(hq:q7b S.hp q=.res):Src ⟨(u,.own q 0)::S.env,(q,.arr e k [])::S.hp,S.nx⟩ k sv rows2:=by
 cases h with
 |own ho hn hd=>
  exact .own (by
   rw[q0b];split
   ·rename_i h;subst h;rw[hq] at ho;simp at ho
   ·exact ho) hn hd
 |lst h=>exact .lst h
 |nil=>exact .nil
 |str hk hr=>exact .str hk hr
theorem y0t{op:Op}(ht:q7p K.P t){d:Nat}{e:Env}{hp:q8d}{fr nx q:Nat}{ue:Env}{uh:q8d}(ha:Ag e S)(hh:AgH hp S)(hnx:S.nx=nx)(h:apY t d e hp fr op=some (ue,uh,q))(hres:∀i,fr<=i->i<fr+q->q7b S.hp i=.res/\i<nx)(hpin:K.pins<=fr)
  (hN:Nat.blt d K.N=true) (k:q1d K ops rest Q ⟨ue++S.env,uh++S.hp,S.nx⟩):q1d K ops (⟨some d,op,ty,pos,after,none⟩::rest) Q S:=by
 cases op<;>simp only[apY,reduceCtorEq] at h;rename_i c;obtain⟨callee,args,at'⟩:=c;simp only at h;split at h
 ·rename_i a y T T' hargs hats;have hargs:=q6m hargs;have hats:=q6m hats;subst hargs;subst hats;split at h
  ·rename_i ety kk bytes _ hT hT';split at h
   ·rename_i hb0;simp only[as9] at hb0;split at h
    ·rename_i rows2 hy;have hsrc:=y1a (K:=K) hy ha hh;split at h
     ·rename_i id n hx;split at h
      ·rename_i e2 k2 rows ho;split at h
       ·rename_i hb;simp only[as9] at hb;have e1:=co9 hb.1.1.1;have e2:=co9 hb.1.1.2;have e3:=co9 hb.1.2;subst e1;subst e2;simp only[az9,Prod.mk.injEq] at h;obtain⟨rfl,rfl,rfl⟩:=h;obtain⟨r1,r2⟩:=hres fr (ae8 _) (am9 _);exact q4g fr (by simp only[as9];exact⟨cp9 r2,cp9 hpin⟩) hnx r1 rows2 _ (z7w ht hT) (z0s ht hT') hb0.1 hb0.2 rfl (ha _ _ hx) (hh _ _ ho) e3 rfl hsrc rfl rfl (az8 hb.2) hN k
       ·simp at h
      ·simp at h
     ·rename_i hx;split at h
      ·rename_i hb;simp only[as9] at hb;simp only[az9,Prod.mk.injEq] at h;obtain⟨rfl,rfl,rfl⟩:=h;obtain⟨r1,r2⟩:=hres fr (ae8 _) (by omega);obtain⟨q1,q2⟩:=hres (fr+1) (am8 _) (by omega)
       have hey:evl K ⟨(a,.own (fr+1) 0)::S.env,(fr+1,.arr ety kk [])::S.hp,S.nx⟩ y=evl K S y:=by
        cases y with
        |tmp b=>
         have hba:b≠a:=fun e=>by
          subst e;have:=hb.2;simp at this
         show get ((a,.own (fr+1) 0)::S.env) b=get S.env b
         rw[q4k,if_neg (Ne.symm hba)]
        |const v=>rfl
        |global g=>rfl
        |func f=>rfl
       refine z7s fr (fr+1) (by simp only[as9];exact⟨cp9 r2,cp9 hpin⟩) (by simp only[as9];exact⟨cp9 q2,cp9 (Nat.le_succ_of_le hpin)⟩) (by omega) hnx r1 q1 rows2 (z7w ht hT) (z0s ht hT') hb0.1 hb0.2 rfl (ha _ _ hx) hey (y8n hsrc q1) rfl (az8 hb.1) hN k
      ·simp at h
     ·simp at h
    ·simp at h
   ·simp at h
  ·simp at h
 ·simp at h
end
section
variable{K:Ctx}{Q:q5l}{S S':St}{ops:Array Oper}{rest:List Oper}{t:TT}
def od2(cb:Nat->List V->Option V)(cb2:Nat->List V->q8d->Nat->Option (V×q8d×Nat))(t:TT)(mt:List MT)(N fr:Nat)(ops:Array Oper)(o:Oper)(e:Env)(hp:q8d)(nx:Nat):Option (OD×Nat):=
 match rdO2 ops o e with
 |none=>none
 |some re=>(match wt ops re o.guard with
  |none=>none
  |some b=>(match b with
   |false=>(match o.dst with|some d=>(match Nat.blt d N with|true=>some (⟨re,[],[(d,.con undef)],[]⟩,fr)|false=>none)|none=>none)
   |true=>(match hrL re hp (hrO o.op) [] with
    |none=>none
    |some rh=>(match o.dst with
     |some d=>(match Nat.blt d N with
      |false=>none
      |true=>(match val t re rh o.op with
       |some v=>some (⟨re,rh,[(d,v)],[]⟩,fr)
       |none=>(match alY t re fr o.op with
        |some (v,ob)=>(match Nat.blt fr nx,hgC hp fr with
         |true,some .res=>some (⟨re,(fr,.res)::rh,[(d,v)],[(fr,ob)]⟩,fr+1)
         |_,_=>none)
        |none=>(match clX t re o.op with
         |some (f,avs)=>(match j1q y9p avs,cb f avs with
          |true,some v=>some (⟨re,rh,[(d,v)],[]⟩,fr)
          |_,_=>(match clB cb2 f avs hp fr nx with
           |some (dv,rh2,u,fr')=>some (⟨re,rh2,[(d,dv)],u⟩,fr')
           |none=>none))
         |none=>(match v6b t mt re rh nx o.op with
          |some (v,[],0)=>some (⟨re,rh,[(d,v)],[]⟩,fr)
          |_=>(match o.guard,apY t d re rh fr o.op with
           |none,some (ue,uh,q)=>(match Nat.ble (fr+q) nx&&y3o (j9t fr q) hp with
            |true=>some (⟨re,y4y (j9t fr q)++rh,ue,uh⟩,fr+q)
            |false=>none)
           |_,_=>none))))))
     |none=>(match wrY t mt re rh o.op with|some (id,ob)=>some (⟨re,rh,[],[(id,ob)]⟩,fr)|none=>none)))))
theorem y9o{cb:Nat->List V->Option V}{cb2:Nat->List V->q8d->Nat->Option (V×q8d×Nat)}(hcb2:∀f avs hp k v hp' k',cb2 f avs hp k=some (v,hp',k')->q7o K.P f=true/\z9y K.gl K.P f avs k hp v k' hp')(hcb:∀f avs v,cb f avs=some v->q7o K.P f=true/\q5s K.gl K.P f avs v)(ht:q7p K.P t){mt:List MT}(hmt:w8e K.P mt){o:Oper}{D:OD}{e:Env}{hp:q8d}{fr fr' nx:Nat}(hpin:K.pins<=fr)
  (h:od2 cb cb2 t mt K.N fr ops o e hp nx=some (D,fr')):w7e K nx ops o D/\RdE e D.re/\RdH hp D.rh/\fr<=fr':=by
 unfold od2 at h;split at h
 ·simp at h
 ·rename_i re hre;have hre':=y4a hre;split at h
  ·simp at h
  ·rename_i b hw;split at h
   ·split at h
    ·rename_i d hd;split at h
     ·rename_i hN;simp at h;obtain⟨rfl,rfl⟩:=h;exact⟨fun S2 hn h1 h2=>j2c (z5m (q4m h1) hw) hd hN (q1c ⟨rfl,rfl⟩),hre',trivial,ae8 _⟩
     ·simp at h
    ·simp at h
   ·split at h
    ·simp at h
    ·rename_i rh hrh;have hrh':=w2v (l:=[]) trivial hrh;obtain⟨dst,op,ty,pos,after,g⟩:=o;cases dst with
     |some d=>
      simp only at h;split at h
      ·simp at h
      ·rename_i hN;split at h
       ·rename_i v hv;simp at h;obtain⟨rfl,rfl⟩:=h;exact⟨fun S2 hn h1 h2=>v7t ht (q4m h1) (j7d h2) hv (z5m (q4m h1) hw) hN (q1c ⟨rfl,rfl⟩),hre',hrh',ae8 _⟩
       ·split at h
        ·rename_i v ob hv;split at h
         ·rename_i hb hres;simp at h;obtain⟨rfl,rfl⟩:=h;exact⟨fun S2 hn h1 h2=>y4t ht (q4m h1) hv (by rw[hb,ai8];exact cp9 hpin) hn h2.1 (z5m (q4m h1) hw) hN (q1c ⟨rfl,rfl⟩),hre',⟨q8v hres,hrh'⟩,am8 _⟩
         ·simp at h
        ·split at h
         ·rename_i f avs hc;split at h
          ·rename_i v hai hcv;simp at h;obtain⟨rfl,rfl⟩:=h;obtain⟨q1,q2⟩:=hcb _ _ _ hcv;refine⟨fun S2 hn h1 h2=>?_,hre',hrh',ae8 _⟩;refine q7y (o:=⟨some d,op,ty,pos,after,g⟩) (z5m (q4m h1) hw) rfl hN (fun m β w a r=>?_) q2 (q1c ⟨rfl,rfl⟩);obtain⟨vs,e1,e2⟩:=z7y ht (o:=⟨some d,op,ty,pos,after,g⟩) (q4m h1) hc q1 m β w a r;exact⟨vs,e1,⟨e2.len,fun i c v a b=>z2k (z5l hai c (ba9 a)) (e2.at' i c v a b)⟩⟩
          ·split at h
           ·rename_i dv rh2 u fr2 hB;simp only[az9,Prod.mk.injEq] at h;obtain⟨rfl,rfl⟩:=h;have p:=fun(Q:q5l)=>y3s (Q:=Q) (ops:=ops) (rest:=[]) hcb2 hB hpin ht (o:=⟨some d,op,ty,pos,after,g⟩) hc rfl hN;exact⟨fun S2 hn h1 h2=>(p _).2.2 S2 hn (q4m h1) h2 (z5m (q4m h1) hw) (q1c ⟨rfl,rfl⟩),hre',(p (fun _ _=>True)).1,(p (fun _ _=>True)).2.1⟩
           ·simp at h
         ·split at h
          ·rename_i v hv;simp at h;obtain⟨rfl,rfl⟩:=h;exact⟨fun S2 hn h1 h2=>v6w ht hmt (q4m h1) (j7d h2) hn hv (z5m (q4m h1) hw) hN (q1c ⟨rfl,rfl⟩),hre',hrh',ae8 _⟩
          ·split at h
           ·rename_i ue uh q hap;split at h
            ·rename_i hb;simp only[as9] at hb;simp only[az9,Prod.mk.injEq] at h;obtain⟨rfl,rfl⟩:=h;refine⟨fun S2 hn h1 h2=>?_,hre',z8z.2 ⟨v0d hb.2,hrh'⟩,bf8 _ _⟩;obtain⟨y1,y2⟩:=z8z.1 h2;exact y0t ht (q4m h1) (j7d y2) hn hap (fun i h1 h2=>⟨v1d y1 i (j4m.2 ⟨h1,h2⟩),cq8 h2 (az8 hb.1)⟩) hpin hN (q1c ⟨rfl,rfl⟩)
            ·simp at h
           ·simp at h
     |none=>
      simp only at h;split at h
      ·rename_i id ob hv;simp at h;obtain⟨rfl,rfl⟩:=h;exact⟨fun S2 hn h1 h2=>w1r ht hmt (q4m h1) (j7d h2) hv (z5m (q4m h1) hw) (q1c ⟨rfl,rfl⟩),hre',hrh',ae8 _⟩
      ·simp at h
theorem v9k{e e':Env}(h:∀t,get e t=get e' t):∀(u:Env) (t:Nat),get (u++e) t=get (u++e') t
 |[],t=>h t
 |(i,o)::u,t=>by
  show get ((i,o)::(u++e)) t=get ((i,o)::(u++e')) t
  rw[q4k,q4k,v9k h u]
theorem j7w{e e':q8d}(h:∀t,q7b e t=q7b e' t):∀(u:q8d) (t:Nat),q7b (u++e) t=q7b (u++e') t
 |[],t=>h t
 |(i,o)::u,t=>by
  show q7b ((i,o)::(u++e)) t=q7b ((i,o)::(u++e')) t
  rw[q0b,q0b,j7w h u]
def drR(cb:Nat->List V->Option V)(cb2:Nat->List V->q8d->Nat->Option (V×q8d×Nat))(t:TT)(mt:List MT)(N:Nat)(ops:Array Oper):List Oper->Nat->Env->q8d->Nat->Option (List OD×Env×q8d)
 |[],_,e,hp,_=>some ([],e,hp)
 |o::l,fr,e,hp,nx=>(match od2 cb cb2 t mt N fr ops o e hp nx with
  |some (D,fr')=>(match drR cb cb2 t mt N ops l fr' (v4o D.ue e) (j5u D.uh hp) nx with|some (ds,e',hp')=>some (D::ds,e',hp')|none=>none)
  |none=>none)
theorem w7v{cb:Nat->List V->Option V}{cb2:Nat->List V->q8d->Nat->Option (V×q8d×Nat)}(hcb2:∀f avs hp k v hp' k',cb2 f avs hp k=some (v,hp',k')->q7o K.P f=true/\z9y K.gl K.P f avs k hp v k' hp')(hcb:∀f avs v,cb f avs=some v->q7o K.P f=true/\q5s K.gl K.P f avs v)(ht:q7p K.P t){mt:List MT}(hmt:w8e K.P mt){nx:Nat} :
  ∀{l:List Oper} {fr:Nat} {e e':Env} {hp hp':q8d} {ds:List OD} {S:St},K.pins<=fr->drR cb cb2 t mt K.N ops l fr e hp nx=some (ds,e',hp')->S.nx=nx->(∀t,get S.env t=get e t)->(∀t,q7b S.hp t=q7b hp t)->
  j0r S ds/\j9d K nx ops l ds/\(∀t,get (z9b S ds).env t=get e' t)/\(∀t,q7b (z9b S ds).hp t=q7b hp' t)/\(z9b S ds).nx=nx
 |[],fr,e,e',hp,hp',ds,S,hpin,h,hn,h1,h2=>by
  simp[drR] at h;obtain⟨rfl,rfl,rfl⟩:=h;exact⟨trivial,.nil,h1,h2,hn⟩
 |o::l,fr,e,e',hp,hp',ds,S,hpin,h,hn,h1,h2=>by
  simp only[drR] at h;split at h
  ·rename_i D fr' hD;obtain⟨a1,a2,a3,a4⟩:=y9o hcb2 hcb ht hmt hpin hD;split at h
   ·rename_i ds' e2 hp2 hR;simp at h;obtain⟨rfl,rfl,rfl⟩:=h;have:=w7v hcb2 hcb ht hmt (S:=S.upd D) (bz9 hpin a4) hR hn (fun t=>(v9k h1 _ t).trans (j1b _ _ t).symm) (fun t=>(j7w h2 _ t).trans (z2h _ _ t).symm);exact⟨⟨RdE.congr (fun t _=>(h1 t).symm) a2,RdH.congr (fun t _=>(h2 t).symm) a3,this.1⟩,.cons a1 this.2.1,this.2.2⟩
   ·simp at h
  ·simp at h
def y4o(nx:Nat):Nat->q8d->q8d
 |0,hp=>hp
 |n+1,hp=>(nx+n,.res)::y4o nx n hp
theorem w3d{c:Code}{e:Env}{hp:q8d}{nx:Nat}:∀(n:Nat),AWP K c Q ⟨e,y4o nx n hp,nx+n⟩->AWP K c Q ⟨e,hp,nx⟩
 |0,h=>h
 |n+1,h=>w3d n (q6d q5i h)
theorem w3p{c:Code}(h:K.pins<=S.nx->AWP K c Q S):AWP K c Q S:=by
 intro m β w a r;refine h ?_ m β w a r;cases hp:K.pins with
 |zero=>exact ak9 _
 |succ q=>have:=(r.pin q (by omega)).1;omega
theorem y8s{cb:Nat->List V->Option V}{cb2:Nat->List V->q8d->Nat->Option (V×q8d×Nat)}(hcb2:∀f avs hp k v hp' k',cb2 f avs hp k=some (v,hp',k')->q7o K.P f=true/\z9y K.gl K.P f avs k hp v k' hp')(hcb:∀f avs v,cb f avs=some v->q7o K.P f=true/\q5s K.gl K.P f avs v)(ht:q7p K.P t){mt:List MT}(hmt:w8e K.P mt)(hm:K.P.follows .mixedOrders=true){rid n nx:Nat}{e e':Env}{hp hp':q8d}{ds:List OD}
  (h:drR cb cb2 t mt K.N ops ops.toList nx e (y4o nx n hp) (nx+n)=some (ds,e',hp')) (hok:j9y ops.toList ds=true) (k:∀S1,q4e K S1 ⟨e',hp',nx+n⟩->Q .normal S1):AWP K (.region rid ops true) Q ⟨e,hp,nx⟩:=by
 refine w3p (fun hpin=>w3d n ?_);obtain⟨l⟩:=ops;obtain⟨a1,a2,a3,a4,a5⟩:=w7v hcb2 hcb ht hmt (S:=⟨e,y4o nx n hp,nx+n⟩) hpin h rfl (fun _=>rfl) (fun _=>rfl);exact y1e ds hm a1 hok a2 (k _ (fun m β _ _ r=>⟨m,β,r.congr (fun t=>(a3 t).symm) (fun t=>(a4 t).symm) a5.symm⟩))
end
section
variable{K:Ctx}{Q:q5l}{S S':St}{t:TT}
def rvT:ResultVar->Nat
 | .tmp x=>x
 | .cell x _=>x
def rvs(e:Env):List ResultVar->Option (List (Nat×V))
 |[]=>some []
 |r::l=>(match gtC e (rvT r) with|some v=>(match rvs e l with|some q=>some ((rvT r,v)::q)|none=>none)|none=>none)
def mpE(f:Nat->Option Nat):List (Nat×V)->Option Env
 |[]=>some []
 |(x,v)::l=>(match mpV f 12 v with|some y=>(match mpE f l with|some q=>some ((x,y)::q)|none=>none)|none=>none)
def w0v(hp:q8d):Nat->List Nat
 |0=>[]
 |q+1=>idsO (q7b hp q)++w0v hp q
def idsE:List (Nat×V)->List Nat
 |[]=>[]
 |p::l=>w9u 12 p.2++idsE l
def cpc(k:Nat)(rs:List ResultVar):St->Option St
 |⟨e,hp,nx⟩=>(match rvs e rs with
  |some l=>(match v9i hp 4000 (w0v hp k++idsE l) (j9t 0 k) with
   |some R=>(match mpE (w6g R 0) l with
    |some e2=>(match inH (w6g R 0) hp 0 R with
     |some (h2,_)=>(match nodup R&&v8o R k with|true=>some ⟨e2,h2,R.length⟩|false=>none)
     |none=>none)
    |none=>none)
   |none=>none)
  |none=>none)
theorem w3r{R:List Nat}:w8g (Ren R.length (sg R)) (w6g R 0):=by
 rintro m β m' β' ⟨rfl,h⟩
 refine⟨rfl,fun i j hij=>?_⟩;obtain⟨q,rfl,hq⟩:=v8e hij;obtain⟨s1,s2⟩:=v6y hq;rw[ch8,h q s2,s1]
theorem v0y{Y:Hy}{f:Nat->Option Nat}(hY:w8g Y f){e:Env}{rs:List ResultVar}:∀{l:List (Nat×V)} {e2:Env},(∀p,p∈l->get e p.1=p.2)->mpE f l=some e2->q7i Y e e2
 |[],e2,_,h=>by simp[mpE] at h;subst h;exact .nil
 |(x,v)::l,e2,hl,h=>by
  simp only[mpE] at h;split at h
  ·rename_i y hy;split at h
   ·rename_i q hq;simp at h;subst h;exact .cons (by rw[hl (x,v) ci9];exact j4n hY hy) (v0y (rs:=rs) hY (fun p hp=>hl p (cb9 _ hp)) hq)
   ·simp at h
  ·simp at h
theorem w7t{e:Env}:∀{rs:List ResultVar} {l:List (Nat×V)},rvs e rs=some l->∀p,p∈l->get e p.1=p.2
 |[],l,h,p,hp=>by simp[rvs] at h;subst h;simp at hp
 |r::rs,l,h,p,hp=>by
  simp only[rvs] at h;split at h
  ·rename_i v hv;split at h
   ·rename_i q hq;simp at h;subst h;rcases at8.1 hp with rfl|hp
    ·exact q4p hv
    ·exact w7t hq p hp
   ·simp at h
  ·simp at h
theorem y1s{k:Nat}{rs:List ResultVar}{S S2:St}(h:cpc k rs S=some S2)(hk:K.pins=k):q4e K S S2:=by
 obtain⟨e,hp,nx⟩:=S;simp only[cpc] at h;split at h
 ·rename_i l hl;split at h
  ·rename_i R hR;split at h
   ·rename_i e2 he;split at h
    ·rename_i h2 r hin;split at h
     ·rename_i hb;simp only[as9] at hb;simp only[az9] at h;subst h;exact q7e (S:=⟨e,hp,nx⟩) R.length (sg R) e2 h2 (j3n hb.1) (v0y (rs:=rs) w3r (w7t hl) he).get (q5j.get (w2a (R0:=R) w3r (fun q i h=>by rw[ch8];exact h) hin (w1a hin))) (by rw[hk];exact j0n hb.2)
     ·simp at h
    ·simp at h
   ·simp at h
  ·simp at h
 ·simp at h
def fin(k:Nat)(rs:List ResultVar)(S:St):St:=match cpc k rs S with|some S2=>S2|none=>S
theorem y7q{k:Nat}{rs:List ResultVar}{S:St}(hk:K.pins=k):q4e K S (fin k rs S):=by
 unfold fin;split
 ·rename_i S2 h;exact y1s h hk
 ·exact fun m β _ _ r=>⟨m,β,r⟩
def y4j(k:Nat)(rs:List ResultVar)(o:Option St):Option St:=match o with|some S=>some (fin k rs S)|none=>none
theorem w1b{k:Nat}{rs:List ResultVar}{o:Option St}{S2:St}(h:y4j k rs o=some S2):∃S,o=some S/\fin k rs S=S2:=by
 unfold y4j at h;split at h
 ·simp only[az9] at h;exact⟨_,rfl,h⟩
 ·simp at h
end
section
variable{K:Ctx}{Q:q5l}{S S':St}{ops:Array Oper}{rest:List Oper}{t:TT}
theorem v6g{o:Oper}{d:Nat}{f:FuncId}{avs:List V}{k':Nat}{hp':q8d}{dv:V}(hw:q2d ops S o true)(hd:o.dst=some d)(hN:Nat.blt d K.N=true)
  (hrun:∀m β w a,Rel K m β w a S->∃vs:Array Value,(execOp a.eval o).run K.P w=.ok (.enter f vs) w/\z3x m β avs vs)
  (hc:z9y K.gl K.P f avs S.nx S.hp dv k' hp') (kk:q1d K ops rest Q ⟨(d,dv)::S.env,hp',k'⟩):q1d K ops (o::rest) Q S:=by
 intro m β w a r;unfold wpListIn;rw[if_pos (hw.at r)];obtain⟨vs,h1,h2⟩:=hrun m β w a r;refine j6f (.inr (z8n h1 (fun d e=>by cases e))) ?_;unfold Oper.wp;rw[h1];refine(hc m β w vs r.imm (K.glok.mono r.ext) h2 r.own (fun id b cap hl hb=>(r.priv id b cap hl hb).1) r.inj (fun id x hl hx=>let q:=r.hid id x hl hx;⟨q.lt,q.m,q.ne,q.un⟩) r.nx).mono ?_
 rintro e w' ⟨v,m',β',rfl,hv,g⟩
 simp only[hd]
 have hle:S.nx<=k':=by
  cases hn:S.nx with
  |zero=>exact ak9 _
  |succ q=>have:=(g.pin q (by omega)).1;omega
 have hβle:β.le β':=by
  intro id l hl;by_cases h:id<S.nx
  ·rw[(g.pin id h).2];exact hl
  ·rw[r.nx id (by omega)] at hl;simp at hl
 have hold:∀b,b<K.w0.heap.size->K.old b->b<w.heap.size/\q9m S.hp β b:=fun b hb ho=>
  ⟨cq8 hb r.size,fun i hl=>⟨fun c hb'=>(r.priv _ _ _ hl hb').2 hb ho,fun hx=>(r.hid _ _ hl hx).old hb ho⟩⟩
 have r2:Rel K m' β' w' a ⟨S.env,hp',k'⟩:=by
  constructor
  ·exact g.imm
  ·exact Mem.le_trans r.ext g.le
  ·intro b hb ho;obtain⟨q1,q2⟩:=hold b hb ho;rw[(g.old b q1 q2).1];exact r.mold b hb ho
  ·intro b hb ho;obtain⟨q1,q2⟩:=hold b hb ho;rw[(g.old b q1 q2).2];exact r.frame b hb ho
  ·exact bz9 r.size g.size
  ·exact r.same.trans g.same
  ·exact r.tn
  ·exact r.df.mono g.le
  ·exact fun t=>(r.env t).mono g.le hβle
  ·exact g.own
  ·intro id b cap hl hb;obtain⟨q1,q2⟩:=g.priv id b cap hl hb;exact⟨q1,fun hb0 ho=>q2 (hold b hb0 ho).1 (hold b hb0 ho).2⟩
  ·exact g.inj
  ·intro id x hl hx;obtain⟨q1,q2,q3,q4,q5⟩:=g.hid id x hl hx;exact⟨q1,q2,fun hb0 ho=>q3 (hold x hb0 ho).1 (hold x hb0 ho).2,q4,q5⟩
  ·exact g.nx
  ·intro q hq;obtain⟨p1,p2⟩:=r.pin q hq;have:=g.pin q p1;exact⟨this.1,this.2.trans p2⟩
 exact kk m' β' w' _ (r2.put hN hv)
def rsvM(t:TT)(e:Env)(hp:q8d):ResultVar->Option V
 | .tmp x=>gtC e x
 | .cell x T=>(match gtC e x with
  |some (.ptr id k i o)=>(match hgC hp id with
   |some (.arr _ k2 rows)=>(match Nat.beq k k2 with|true=>(match lgt rows i with|some row=>ldV t T row o|none=>none)|false=>none)
   |_=>none)
  |_=>none)
theorem y2a(ht:q7p K.P t){rv:ResultVar}{v:V}(h:rsvM t S.env S.hp rv=some v):z6l K.P S rv v:=by
 cases rv with
 |tmp x=>exact .tmp (q4p h)
 |cell x T=>
  simp only[rsvM] at h;split at h
  ·rename_i id k i o hx;split at h
   ·rename_i k2 rows ho;split at h
    ·rename_i hk;have hk:=co9 hk;subst hk;split at h
     ·rename_i row hr;cases hn:ask t T TF.qA with
      |some n=>
       obtain⟨cs,rfl,hc,hd⟩:=j9n hn h;exact .agg (y0z ht hn) (q4p hx) (q8v ho) (q7s hr) (z2u hc).1 (z2u hc).2 hd
      |none=>
       obtain⟨hq,hc,hd⟩:=z2y hn h;exact .cell (y9y ht hq) (q4p hx) (q8v ho) (q7s hr) (q7s hc) hd
     ·simp at h
    ·simp at h
   ·simp at h
  ·simp at h
def rsL(t:TT)(e:Env)(hp:q8d):List ResultVar->Option (List V)
 |[]=>some []
 |r::l=>(match rsvM t e hp r with|some v=>(match rsL t e hp l with|some q=>some (v::q)|none=>none)|none=>none)
theorem v3v(ht:q7p K.P t):∀{l:List ResultVar} {ds:List V},rsL t S.env S.hp l=some ds->w4q K.P S l ds
 |[],ds,h=>by simp[rsL] at h;subst h;exact .nil
 |r::l,ds,h=>by
  simp only[rsL] at h;split at h
  ·rename_i v hv;split at h
   ·rename_i q hq;simp at h;subst h;exact .cons (y2a ht hv) (v3v ht hq)
   ·simp at h
  ·simp at h
abbrev FT:=List (Nat×Func)
def FTok(P:Program)(ft:FT):Prop:=∀p,p∈ft->P.funcs[p.1]? = some p.2/\q7o P p.1=true
def mkFT(P:Program)(l:List Nat):FT:=l.filterMap fun f=>match P.funcs[f]? with|some g=>some (f,g)|none=>none
theorem ft_ok{P:Program}{ft:FT}(l:List Nat)(h:ft=mkFT P l)(hB:l.all (q7o P)=true):FTok P ft:=fun p hp=>by
 rw[h] at hp;obtain⟨f,hf,e⟩:=List.mem_filterMap.1 hp;split at e
 ·rename_i g hg;cases aj9 e;exact⟨hg,as8.1 hB f hf⟩
 ·cases e
abbrev XT:=List (Nat×(List V->Option V))
def XTok(gl:Gl)(P:Program)(xt:XT):Prop:=∀p,p∈xt->q7o P p.1=true/\∀avs v,p.2 avs=some v->q5s gl P p.1 avs v
def opOf(t:TT)(N:Nat)(ops:Array Oper)(e:Env)(o:Oper):Option (Nat×Nat×List V):=
 match dsC N ops e o with
 |some d=>(match clX t e o.op with|some (f,avs)=>some (d,f,avs)|none=>none)
 |none=>none
def nAl(t:TT):List Oper->Nat
 |[]=>0
 |o::l=>(match o.op with | .alloc _=>nAl t l+1 | .box _ _=>nAl t l+1 | .makeMap _ _=>nAl t l+1 | .buildSlice _ _ _=>nAl t l+1 | .makeSlice _ _ _=>nAl t l+1 | .call c=>(match c.callee with | .value x=>(match x with | .func f=>(match ask t f TF.qR with|some n=>nAl t l+n|none=>nAl t l+12)|_=>nAl t l+12) | .invoke _ _=>nAl t l+12 | .builtin .append=>nAl t l+2|_=>nAl t l)|_=>nAl t l)
def evR(ft:FT)(xt:XT)(t:TT)(mt:List MT):Nat->Nat->List It->St->Option St
 |0,_,_,_=>none
 |_+1,_,[],S=>some S
 |n+1,N,x::s,⟨e,hp,nx⟩=>
  match x with
  | .c .ret=>some ⟨e,hp,nx⟩
  | .c (.loop c)=>evR ft xt t mt n N (.c c::.c (.loop c)::s) ⟨e,hp,nx⟩
  | .c (.region _ ops true)=>
   (match drR (fun f avs=>match lk xt f with
     |some g=>g avs
     |none=>(match lk ft f with
      |some fn=>(match fn.body with
       |some c=>(match Nat.ble avs.length fn.ntmps,y4j 0 fn.results.toList (evR ft xt t mt n fn.ntmps [.c c] ⟨q6y 0 avs,[],0⟩) with
        |true,some ⟨e1,hp1,_⟩=>(match rsL t e1 hp1 fn.results.toList with
         |some ds=>(match y9p (z2i ds) with|true=>some (z2i ds)|false=>none)
         |none=>none)
        |_,_=>none)
       |none=>none)
      |none=>none)) (fun f avs hp k=>match lk ft f with
      |some fn=>(match fn.body with
       |some c=>(match Nat.ble avs.length fn.ntmps,y4j k fn.results.toList (evR ft xt t mt n fn.ntmps [.c c] ⟨q6y 0 avs,hp,k⟩) with
        |true,some ⟨e1,hp1,k1⟩=>(match rsL t e1 hp1 fn.results.toList with
         |some ds=>some (z2i ds,hp1,k1)
         |none=>none)
        |_,_=>none)
       |none=>none)
      |none=>none) t mt N ops ops.toList nx e (y4o nx (nAl t ops.toList) hp) (nx+nAl t ops.toList) with
   |some (ds,e',hp')=>(match j9y ops.toList ds with|true=>evR ft xt t mt n N s ⟨e',w9n nx (nAl t ops.toList) hp',nx+nAl t ops.toList⟩|false=>none)
   |none=>none)
  | .o ops (o::l)=>
   (match one t N ops o ⟨e,hp,nx⟩ with
   |some ⟨e',hp',nx'⟩=>evR ft xt t mt n N (.o ops l::s) ⟨w9y e',w8y hp',nx'⟩
   |none=>(match opOf t N ops e o with
    |some (d,f,avs)=>(match lk xt f with
     |some g=>(match g avs with|some v=>(match j1q y9p avs with|true=>evR ft xt t mt n N (.o ops l::s) ⟨v9v d v e,hp,nx⟩|false=>none)|none=>none)
     |none=>(match lk ft f with
      |some fn=>(match fn.body with
       |some c=>(match Nat.ble avs.length fn.ntmps,y4j nx fn.results.toList (evR ft xt t mt n fn.ntmps [.c c] ⟨q6y 0 avs,hp,nx⟩) with
        |true,some ⟨e1,hp1,nx1⟩=>(match rsL t e1 hp1 fn.results.toList with
         |some ds=>evR ft xt t mt n N (.o ops l::s) ⟨v9v d (z2i ds) e,hp1,nx1⟩
         |none=>none)
        |_,_=>none)
       |none=>none)
      |none=>none))
    |none=>(match dsC N ops e o with
     |some d=>(match v6b t mt e hp nx o.op with|some (v,u,q)=>evR ft xt t mt n N (.o ops l::s) ⟨v9v d v e,j5u u hp,nx+q⟩|none=>(match o.guard,apN t d e hp nx o.op with|none,some (ue,uh)=>evR ft xt t mt n N (.o ops l::s) ⟨v4o ue e,j5u uh hp,nx+2⟩|_,_=>none))
     |none=>(match o.dst,wt ops e o.guard with
      |none,some true=>(match wrY t mt e hp o.op with|some (id,ob)=>evR ft xt t mt n N (.o ops l::s) ⟨e,v5s id ob hp,nx⟩|none=>none)
      |_,_=>none))))
  |x=>(match stp t N (x::s) ⟨e,hp,nx⟩ with|some (s',S')=>evR ft xt t mt n N s' S'|none=>none)
theorem j1k{d:Nat}{v:V}{e:Env}{hp:q8d}{nx:Nat}:q4e K ⟨(d,v)::e,hp,nx⟩ ⟨v9v d v e,hp,nx⟩:=fun m β _ _ r=>⟨m,β,r.congr (z7o d v e) (fun _=>rfl) rfl⟩
theorem v1q{id:Nat}{ob:Ob}{e:Env}{hp:q8d}{nx:Nat}:q4e K ⟨e,(id,ob)::hp,nx⟩ ⟨e,v5s id ob hp,nx⟩:=fun m β _ _ r=>⟨m,β,r.congr (fun _=>rfl) (z0e id ob hp) rfl⟩
theorem v9p{d:Nat}{v:V}{e:Env}{u hp:q8d}{nx:Nat}:q4e K ⟨(d,v)::e,u++hp,nx⟩ ⟨v9v d v e,j5u u hp,nx⟩:=fun m β _ _ r=>⟨m,β,r.congr (z7o d v e) (z2h u hp) rfl⟩
theorem v2f{ue e:Env}{u hp:q8d}{nx:Nat}:q4e K ⟨ue++e,u++hp,nx⟩ ⟨v4o ue e,j5u u hp,nx⟩:=fun m β _ _ r=>⟨m,β,r.congr (j1b ue e) (z2h u hp) rfl⟩
theorem v9e{S1 S2 S3:St}(h:q4e K S1 S2)(h':q4e K S2 S3):q4e K S1 S3:=q4e.trans h h'
theorem z3h:q4e K S S:=fun m β _ _ r=>⟨m,β,r⟩
theorem wg_b{i:Nat}{s:List It}(h:WG K Q s S):WG K Q (.b i::s) S:=h
theorem y8r{gl:Gl}{P:Program}{ft:FT}{xt:XT}{mt:List MT}(hft:FTok P ft)(hxt:XTok gl P xt)(ht:q7p P t)(hmt:w8e P mt)(hm:P.follows .mixedOrders=true):
  ∀(n:Nat) (K:Ctx),K.P=P->K.gl=gl->∀(s:List It) (S S':St) (Q:q5l),evR ft xt t mt n K.N s S=some S'->(∀S0,q4e K S0 S'->∀e,(e=.ret\/e=.normal)->Q e S0)->∀S0,q4e K S0 S->WG K Q s S0:=by
 intro n
 induction n with
 |zero=>intro K hP hgl s S S' Q h _;simp[evR] at h
 |succ n ih=>
  -- a call by its text
  have call:∀(f:Nat) (fn:Func) (c:Code) (avs:List V) (hp hp1:q8d) (nx nx1:Nat) (e1:Env) (ds:List V),P.funcs[f]? = some fn->fn.body=some c->Nat.ble avs.length fn.ntmps=true->
    y4j nx fn.results.toList (evR ft xt t mt n fn.ntmps [.c c] ⟨q6y 0 avs,hp,nx⟩)=some ⟨e1,hp1,nx1⟩->rsL t e1 hp1 fn.results.toList=some ds->z9y gl P f avs nx hp (z2i ds) nx1 hp1:=by
   intro f fn c avs hp hp1 nx nx1 e1 ds q1 hb hle hrun hds;refine q2m (l:=fn.results.toList) q1 hb rfl (by simp) hle _ rfl (fun w0 m0 β0 hg=>?_);obtain⟨S9,hr9,hf9⟩:=w1b hrun;refine ih (v3p gl P fn.ntmps nx hp w0 m0 β0 hg) rfl rfl [.c c] _ _ _ hr9 ?_ _ z3h;exact fun S0 hg e he=>⟨he,e1,q4e.trans hg (by rw[<-hf9];exact y7q rfl),v3v (S:=⟨e1,hp1,nx1⟩) ht hds⟩
  intro K hP hgl s S S' Q h hQ S0 hg0;cases s with
  |nil=>simp only[evR,az9] at h;subst h;exact hQ _ hg0 _ (.inr rfl)
  |cons x s=>
   obtain⟨e,hp,nx⟩:=S;have ha:Ag e ⟨e,hp,nx⟩:=agE (S:=⟨e,hp,nx⟩);have htK:q7p K.P t:=by rw[hP];exact ht
   have hmK:w8e K.P mt:=by rw[hP];exact hmt
   simp only[evR] at h;split at h
   ·simp only[az9] at h;subst h;exact v1g (q2z (hQ _ hg0 _ (.inl rfl)))
   ·exact q6d hg0 (v4m (ih K hP hgl _ _ _ _ h hQ _ z3h))
   ·split at h
    ·rename_i ds e' hp' hdr;split at h
     ·rename_i hok;refine q6d hg0 (y8s ?_ ?_ htK hmK (by rw[hP];exact hm) hdr hok (fun S1 hg1=>ih K hP hgl _ _ _ _ h hQ _ (v9e hg1 (v2q (w8n _ _ _)))))
      ·intro f avs hp k v hp' k' hv;split at hv
       ·rename_i fn hfn;obtain⟨q1,q2⟩:=hft _ (z0u hfn);split at hv
        ·rename_i c hb;split at hv
         ·rename_i e1 hp1 nx1 hle hrun;split at hv
          ·rename_i ds hds;simp only[az9,Prod.mk.injEq] at hv;obtain⟨rfl,rfl,rfl⟩:=hv;exact⟨by rw[hP];exact q2,by rw[hP,hgl];exact call f fn c avs hp hp1 k nx1 e1 ds q1 hb hle hrun hds⟩
          ·simp at hv
         ·simp at hv
        ·simp at hv
       ·simp at hv
      intro f avs v hv;split at hv
      ·rename_i g hg;obtain⟨q1,q2⟩:=hxt _ (z0u hg);exact⟨by rw[hP];exact q1,by rw[hP,hgl];exact q2 _ _ hv⟩
      ·split at hv
       ·rename_i fn hfn;obtain⟨q1,q2⟩:=hft _ (z0u hfn);split at hv
        ·rename_i c hb;split at hv
         ·rename_i e1 hp1 nx1 hle hrun;split at hv
          ·rename_i ds hds;split at hv
           ·rename_i him;simp only[az9] at hv;subst hv;exact⟨by rw[hP];exact q2,by rw[hP,hgl];exact v8j (call f fn c avs [] hp1 0 _ e1 ds q1 hb hle hrun hds) him⟩
           ·simp at hv
          ·simp at hv
         ·simp at hv
        ·simp at hv
       ·simp at hv
     ·simp at h
    ·simp at h
   ·rename_i ops o l;refine q7d hg0 ?_;split at h
    ·rename_i e' hp' nx' h1;exact w8t htK h1 (ih K hP hgl _ _ _ _ h hQ _ v8p)
    ·split at h
     ·rename_i d f avs hop;unfold opOf at hop;split at hop
      ·rename_i d' hd;split at hop
       ·rename_i hc;simp only[az9,Prod.mk.injEq] at hop;obtain⟨rfl,rfl,rfl⟩:=hop;obtain⟨w1,w2,w3⟩:=z4p ha hd;split at h
        ·rename_i g hg;split at h
         ·rename_i v hv;obtain⟨q1,q2⟩:=hxt _ (z0u hg);split at h
          ·rename_i him
           exact q7y w1 w2 w3 (fun m β w a r=>by
            obtain⟨vs,e1,e2⟩:=z7y htK ha hc (by rw[hP];exact q1) m β w a r;exact⟨vs,e1,⟨e2.len,fun i c v a b=>z2k (z5l him c (ba9 a)) (e2.at' i c v a b)⟩⟩) (by rw[hP,hgl];exact q2 _ _ hv) (ih K hP hgl _ _ _ _ h hQ _ j1k)
          ·simp at h
         ·simp at h
        ·split at h
         ·rename_i fn hfn;obtain⟨q1,q2⟩:=hft _ (z0u hfn);split at h
          ·rename_i c hb;split at h
           ·rename_i e1 hp1 nx1 hle hrun;split at h
            ·rename_i ds hds;exact v6g w1 w2 w3 (z7y htK ha hc (by rw[hP];exact q2)) (by rw[hP,hgl];exact call _ _ _ _ _ _ _ _ _ _ q1 hb hle hrun hds) (ih K hP hgl _ _ _ _ h hQ _ j1k)
            ·simp at h
           ·simp at h
          ·simp at h
         ·simp at h
       ·simp at hop
      ·simp at hop
     ·split at h
      ·rename_i d hd;obtain⟨w1,w2,w3⟩:=z4p ha hd;split at h
       ·rename_i v u q h1;obtain⟨dst,op,ty,pos,after,g⟩:=o;simp only at w2;subst w2;exact v6w htK hmK ha (agH (S:=⟨e,hp,nx⟩)) rfl h1 w1 w3 (ih K hP hgl _ _ _ _ h hQ _ v9p)
       ·split at h
        ·rename_i hgd h1;obtain⟨dst,op,ty,pos,after,g⟩:=o;simp only at w2;subst w2;exact y1t htK h1 hgd w3 (ih K hP hgl _ _ _ _ h hQ _ v2f)
        ·simp at h
      ·split at h
       ·rename_i hdst hwt;have hw:=z5m ha hwt;split at h
        ·rename_i id ob h1;obtain⟨dst,op,ty,pos,after,g⟩:=o;simp only at hdst;subst hdst;exact w1r htK hmK ha (agH (S:=⟨e,hp,nx⟩)) h1 hw (ih K hP hgl _ _ _ _ h hQ _ v1q)
        ·simp at h
       ·simp at h
   ·rename_i x4 n1 n2 n3 n4;split at h
    ·rename_i s' S2 h1;have k:=w2t (Q:=Q) htK h1 (ih K hP hgl _ _ _ _ h hQ _ z3h);cases x with
     |c x=>exact q6d hg0 k
     |o ops l=>exact q7d hg0 k
     |b i=>simp only[stp,az9,Prod.mk.injEq] at h1;obtain⟨rfl,rfl⟩:=h1;exact wg_b (ih K hP hgl _ _ _ _ h hQ _ hg0)
     |j J=>simp[stp] at h1
    ·simp at h
def evF(ft:FT)(xt:XT)(t:TT)(mt:List MT)(n f:Nat)(avs:List V):Option V:=
 match lk ft f with
 |some fn=>(match fn.body with
  |some c=>(match Nat.ble avs.length fn.ntmps,evR ft xt t mt n fn.ntmps [.c c] ⟨q6y 0 avs,[],0⟩ with
   |true,some ⟨e1,hp1,_⟩=>(match rsL t e1 hp1 fn.results.toList with
    |some ds=>(match y9p (z2i ds) with|true=>some (z2i ds)|false=>none)
    |none=>none)
   |_,_=>none)
  |none=>none)
 |none=>none
theorem y9r{gl:Gl}{P:Program}{ft:FT}{xt:XT}{mt:List MT}(hft:FTok P ft)(hxt:XTok gl P xt)(ht:q7p P t)(hmt:w8e P mt)(hm:P.follows .mixedOrders=true){n f:Nat}{avs:List V}{v:V}
  (h:evF ft xt t mt n f avs=some v):q5s gl P f avs v:=by
 unfold evF at h;split at h
 ·rename_i fn hfn;obtain⟨q1,q2⟩:=hft _ (z0u hfn);split at h
  ·rename_i c hb;split at h
   ·rename_i e1 hp1 nx1 hle hrun;split at h
    ·rename_i ds hds;split at h
     ·rename_i him;simp only[az9] at h;subst h;refine v8j (k':=nx1) (hp':=hp1) ?_ him;refine q2m (l:=fn.results.toList) q1 hb rfl (by simp) hle _ rfl (fun w0 m0 β0 hg=>?_);refine y8r hft hxt ht hmt hm n (v3p gl P fn.ntmps 0 [] w0 m0 β0 hg) rfl rfl [.c c] _ _ _ hrun ?_ _ z3h;exact fun S0 hg e he=>⟨he,e1,hg,v3v (S:=⟨e1,hp1,nx1⟩) ht hds⟩
     ·simp at h
    ·simp at h
   ·simp at h
  ·simp at h
 ·simp at h
end
end Go.Pv
