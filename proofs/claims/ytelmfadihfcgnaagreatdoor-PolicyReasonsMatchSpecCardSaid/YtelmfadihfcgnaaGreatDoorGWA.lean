/- Part of the proof. -/
import Derived.Test.YtelmfadihfcgnaaGreatDoorGPvW
set_option linter.unusedSimpArgs false
set_option linter.unusedVariables false
namespace Go.Pv
open Go
def jW(f:V->V->Option V):List V->List V->Option (List V)
 |[],l=>(match l with|[]=>some []|_=>none)
 |a::al,l=>(match l with|b::bs=>(match f a b with|some r=>(match jW f al bs with|some q=>some (r::q)|none=>none)|none=>none)|[]=>none)
def rR(σ:List Nat):Nat->V->V->Option V
 |0,_,_=>none
 |n+1,tv,v=>
  match tv with
  | .any=>some .any
  | .con _=>(match v with | .con x=>some (.con x)|_=>none)
  | .lst k _=>(match v with
   | .lst k' r=>some (.lst k' r)
   | .con x=>(match x with | .slice none 0 0=>some (.lst k [])|_=>none)
   |_=>none)
  | .iptr _ _=>(match v with | .iptr r o=>some (.iptr r o)|_=>none)
  | .imap _=>(match v with | .imap e=>some (.imap e)|_=>none)
  | .ifc _ _=>(match v with | .ifc T d=>some (.ifc T d)|_=>none)
  | .agg ts=>(match v with | .agg vs=>(match jW (rR σ n) ts vs with|some r=>some (.agg r)|none=>none)|_=>none)
  | .tup ts=>(match v with | .tup vs=>(match jW (rR σ n) ts vs with|some r=>some (.tup r)|none=>none)|_=>none)
  | .fn _ a b=>(match v with
   | .fn f a' b'=>(match jW (rR σ n) a a' with|some ra=>(match jW (rR σ n) b b' with|some rb=>some (.fn f ra rb)|none=>none)|none=>none)
   |_=>none)
  | .ptr id _ _ _=>(match v with | .ptr j k i o=>(match lA σ id with|some j'=>(match Nat.beq j' j with|true=>some (.ptr id k i o)|false=>none)|none=>none)|_=>none)
  | .own id _=>(match v with | .own j m=>(match lA σ id with|some j'=>(match Nat.beq j' j with|true=>some (.own id m)|false=>none)|none=>none)|_=>none)
  | .map id=>(match v with | .map j=>(match lA σ id with|some j'=>(match Nat.beq j' j with|true=>some (.map id)|false=>none)|none=>none)|_=>none)
  | .adr id=>(match v with
   | .adr j=>(match lA σ id with|some j'=>(match Nat.beq j' j with|true=>some (.adr id)|false=>none)|none=>none)
   | .ptr j _ 0 0=>(match lA σ id with|some j'=>(match Nat.beq j' j with|true=>some (.adr id)|false=>none)|none=>none)
   | .con x=>(match x with | .pointer none=>(match lA σ id with|some _=>some (.adr id)|none=>none)|_=>none)
   |_=>none)
  | .dsl _ _ _=>(match v with | .dsl e k r=>(match σ with|[]=>none|_::_=>some (.dsl e k r))|_=>none)
  | .dmp _=>(match v with | .dmp e=>(match σ with|[]=>none|_::_=>some (.dmp e))|_=>none)
  | .dpt _ _=>(match v with | .dpt e r=>(match σ with|[]=>none|_::_=>some (.dpt e r))|_=>none)
  | .plc _ _=>(match v with | .plc v0 d=>(match σ with|[]=>none|_::_=>some (.plc v0 d))|_=>none)
def sg(σ:List Nat):Nat->Nat:=fun i=>σ.getD i 0
theorem j3{σ:List Nat}{i j:Nat}(h:lA σ i=some j):Nat.blt i σ.length=true/\sg σ i=j:=by
 have h:=eL h;have h2:=(bb8.1 h).1
 simp_all[sg]
theorem jy{Yo:Hy}{f:V->V->Option V}(hf:∀a b r,f a b=some r->ak Yo r b):∀{al bs r:List V},jW f al bs=some r->iP Yo r bs
 |[],bs,r,h=>by
  simp only[jW] at h;split at h
  ·simp at h;subst h;exact .nil
  grind
 |a::al,bs,r,h=>by
  simp only[jW] at h;split at h
  ·split at h
   ·rename_i q hq;split at h
    ·rename_i p hp;simp at h;subst h;exact .cons (hf _ _ _ hq) (jy hf hp)
    ·simp at h
   ·simp at h
  ·simp at h
theorem ak.tupS{Yo:Hy}{l l':List V}(h:iP Yo l l')(hi:∀m β m' β' v v' x,Yo m β m' β'->ak Yo v v'->bT m v' x->bn m' β' v x):ak Yo (.tup l) (.tup l'):=by
 intro m β m' β' x hy hx;cases hx with
 |imm hx=>cases hx with
  |tup hl hh=>
   refine .tup (h.len.trans hl) (fun i c v hc hv=>?_);obtain⟨c',hc'⟩:∃c',l'[i]? = some c':=⟨l'[i]'(by grind),by simp⟩;exact hi m β m' β' c c' v hy (h.get i c c' hc hc') (hh i c' v hc' hv)
 |tup hl hh=>
  refine .tup (h.len.trans hl) (fun i c v hc hv=>?_);obtain⟨c',hc'⟩:∃c',l'[i]? = some c':=⟨l'[i]'(by grind),by simp⟩;exact h.get i c c' hc hc' m β m' β' v hy (hh i c' v hc' hv)
theorem ak.fnS{Yo:Hy}{f:Fn}{l l' k k':List V}(h:iP Yo l l')(h2:iP Yo k k'):ak Yo (.fn f l k) (.fn f l' k'):=by
 intro m β m' β' x hy hx
 have key:∀{l l':List V},iP Yo l l'->∀(fs:Array Value),l'.length=fs.size->(∀(i:Nat) (c:V) (v:Value),l'[i]? = some c->fs[i]? = some v->bn m β c v)->
   l.length=fs.size/\∀(i:Nat) (c:V) (v:Value),l[i]? = some c->fs[i]? = some v->bn m' β' c v:=by
  intro l l' h fs hl hh;refine⟨h.len.trans hl,fun i c v hc hv=>?_⟩;obtain⟨c',hc'⟩:∃c',l'[i]? = some c':=⟨l'[i]'(by grind),by simp⟩;exact h.get i c c' hc hc' m β m' β' v hy (hh i c' v hc' hv)
 cases hx with
 |imm hx=>cases hx with
  |fn h3 h4 h5 h6=>
   obtain⟨a1,a2⟩:=key h _ h3 (fun i c v hc hv=>.imm (h5 i c v hc hv));obtain⟨b1,b2⟩:=key h2 _ h4 (fun i c v hc hv=>.imm (h6 i c v hc hv));exact .fn a1 b1 a2 b2
 |fn h3 h4 h5 h6=>
  obtain⟨a1,a2⟩:=key h _ h3 h5;obtain⟨b1,b2⟩:=key h2 _ h4 h6;exact .fn a1 b1 a2 b2
theorem ak.adr{n id j:Nat}{σ:Nat->Nat}(hn:Nat.blt id n=true)(hj:σ id=j):ak (Ren n σ) (.adr id) (.adr j):=fun m β m' β' x hy hx=>by
 have h:=hy.2 id (aw9 hn);rw[hj] at h;cases hx with
 |imm h=>cases h
 |adrNil=>exact .adrNil
 |adr hb=>exact .adr (by grind)
theorem ak.adrPtr{n id j k:Nat}{σ:Nat->Nat}(hn:Nat.blt id n=true)(hj:σ id=j):ak (Ren n σ) (.adr id) (.ptr j k 0 0):=fun m β m' β' x hy hx=>by
 have h:=hy.2 id (aw9 hn);rw[hj] at h;cases hx with
 |imm h=>cases h
 |ptr hb=>have:=bn.adr (m:=m') (β:=β') (id:=id) (by rw[h];exact hb);grind
theorem ak.adrNil{Yo:Hy}{id:Nat}:ak Yo (.adr id) (.con (.pointer none)):=fun m β m' β' x _ hx=>by
 rw[hx.of_con];exact .adrNil
theorem i6{σ:List Nat}:∀(n:Nat) (tv v r:V),rR σ n tv v=some r->ak (Ren σ.length (sg σ)) r v
 |0,_,_,_,h=>by simp[rR] at h
 |n+1,tv,v,r,h=>by
  have im:∀{v:V},aw v->ak (Ren σ.length (sg σ)) v v:=fun h=>ak.imm h;simp only[rR] at h;split at h
  ·simp at h;subst h;exact ak.any
  ·split at h
   ·simp at h;subst h;exact im (aw.con _)
   ·simp at h
  ·split at h
   ·simp at h;subst h;exact im (aw.lst _ _)
   ·split at h
    ·simp at h;subst h;exact ak.nil _
    ·simp at h
   ·simp at h
  ·split at h
   ·simp at h;subst h;exact im (aw.iptr _ _)
   ·simp at h
  ·split at h
   ·simp at h;subst h;exact im (aw.imap _)
   ·simp at h
  ·split at h
   ·simp at h;subst h;exact im (aw.ifc _ _)
   ·simp at h
  ·split at h
   ·split at h
    ·rename_i q hq;simp at h;subst h;exact ak.agg (jy (i6 n) hq)
    ·simp at h
   ·simp at h
  ·split at h
   ·split at h
    ·rename_i q hq;simp at h;subst h;exact ak.tupS (jy (i6 n) hq) (fun m β m' β' v v' x hy hs hv=>hs m β m' β' x hy (.imm hv))
    ·simp at h
   ·simp at h
  ·split at h
   ·split at h
    ·rename_i q hq;split at h
     ·rename_i p hp;simp at h;subst h;exact ak.fnS (jy (i6 n) hq) (jy (i6 n) hp)
     ·simp at h
    ·simp at h
   ·simp at h
  ·split at h
   ·split at h
    ·rename_i j' hj;split at h
     ·rename_i hb;simp at h;subst h;obtain⟨h1,h2⟩:=j3 hj;exact ak.ptr h1 (h2.trans (cg9 hb))
     ·simp at h
    ·simp at h
   ·simp at h
  ·split at h
   ·split at h
    ·rename_i j' hj;split at h
     ·rename_i hb;simp at h;subst h;obtain⟨h1,h2⟩:=j3 hj;exact ak.own h1 (h2.trans (cg9 hb))
     ·simp at h
    ·simp at h
   ·simp at h
  ·split at h
   ·split at h
    ·rename_i j' hj;split at h
     ·rename_i hb;simp at h;subst h;obtain⟨h1,h2⟩:=j3 hj;exact ak.map h1 (h2.trans (cg9 hb))
     ·simp at h
    ·simp at h
   ·simp at h
  ·split at h
   ·split at h
    ·rename_i j' hj;split at h
     ·rename_i hb;simp at h;subst h;obtain⟨h1,h2⟩:=j3 hj;exact ak.adr h1 (h2.trans (cg9 hb))
     ·simp at h
    ·simp at h
   ·split at h
    ·rename_i j' hj;split at h
     ·rename_i hb;simp at h;subst h;obtain⟨h1,h2⟩:=j3 hj;exact ak.adrPtr h1 (h2.trans (cg9 hb))
     ·simp at h
    ·simp at h
   ·split at h
    ·split at h
     ·simp at h;subst h;exact ak.adrNil
     ·simp at h
    ·simp at h
   ·simp at h
  ·split at h
   ·split at h
    ·simp at h
    ·simp at h;subst h;exact ak.kp (dE.dsl _ _ _)
   ·simp at h
  ·split at h
   ·split at h
    ·simp at h
    ·simp at h;subst h;exact ak.kp (dE.dmp _)
   ·simp at h
  ·split at h
   ·split at h
    ·simp at h
    ·simp at h;subst h;exact ak.kp (dE.dpt _ _)
   ·simp at h
  ·split at h
   ·split at h
    ·simp at h
    ·simp at h;subst h;exact ak.kp (dE.plc _ _)
   ·simp at h
theorem iZ.any{Yo:Hy}{v:V}:iZ Yo .any v:=fun _ _ _ _ _ _ _ _ _=>.inl (.imm (.any _))
theorem ET{σ:List Nat}{n:Nat}{tv v r:V}(h:rR σ n tv v=some r)(hd:v.deep=true):r=.any\/r=v/\dE v:=by
 cases n with
 |zero=>simp[rR] at h
 |succ n=>
  cases σ<;>cases v<;>simp[V.deep] at hd<;>cases tv<;>simp[rR] at h<;>subst h<;>first|exact .inl rfl|exact .inr ⟨rfl,dE.dsl _ _ _⟩|exact .inr ⟨rfl,dE.dmp _⟩|exact .inr ⟨rfl,dE.dpt _ _⟩|exact .inr ⟨rfl,dE.plc _ _⟩
theorem xO{σ:List Nat}{n:Nat}{tv v r:V}(h:rR σ n tv v=some r):iZ (Ren σ.length (sg σ)) r v:=by
 cases hd:v.deep with
 |false=>exact .sub (i6 n tv v r h) hd
 |true=>
  rcases ET h hd with rfl|⟨rfl,hk⟩
  ·exact iZ.any
  ·exact .same jx.h (ak.kp hk)
theorem o7{Yo:Hy}{f:V->V->Option V}(hf:∀a b r,f a b=some r->iZ Yo r b):∀{al bs r:List V},jW f al bs=some r->r.length=bs.length/\∀(j:Nat) c c',r[j]? = some c->bs[j]? = some c'->iZ Yo c c'
 |[],bs,r,h=>by
  grind [jW]
 |a::al,bs,r,h=>by
  simp only[jW] at h;split at h
  ·split at h
   ·rename_i q hq;split at h
    ·rename_i p hp;simp at h;subst h;obtain⟨h1,h2⟩:=o7 hf hp<;>grind
    grind
   grind
  grind
theorem ii{f:V->V->Option V}(hf:∀a b r,f a b=some r->aw r):∀{al bs r:List V},jW f al bs=some r->cz r
 |[],bs,r,h=>by
  simp only[jW] at h;split at h
  ·simp at h;subst h;exact .nil
  grind
 |a::al,bs,r,h=>by
  simp only[jW] at h;split at h
  ·split at h
   ·rename_i q hq;split at h
    ·rename_i p hp;simp at h;subst h;exact .cons (hf _ _ _ hq) (ii hf hp)
    ·simp at h
   ·simp at h
  ·simp at h
theorem my:∀(n:Nat) (tv v r:V),rR [] n tv v=some r->aw r
 |0,_,_,_,h=>by simp[rR] at h
 |n+1,tv,v,r,h=>by
  simp only[rR] at h;split at h
  ·simp at h;subst h;exact aw.any
  ·split at h
   ·simp at h;subst h;exact aw.con _
   ·simp at h
  ·split at h
   ·simp at h;subst h;exact aw.lst _ _
   ·split at h
    ·simp at h;subst h;exact aw.lst _ _
    ·simp at h
   ·simp at h
  ·split at h
   ·simp at h;subst h;exact aw.iptr _ _
   ·simp at h
  ·split at h
   ·simp at h;subst h;exact aw.imap _
   ·simp at h
  ·split at h
   ·simp at h;subst h;exact aw.ifc _ _
   ·simp at h
  ·split at h
   ·split at h
    ·rename_i q hq;simp at h;subst h;exact aw.agg (ii (my n) hq)
    ·simp at h
   ·simp at h
  ·split at h
   ·split at h
    ·rename_i q hq;simp at h;subst h;exact aw.tup (ii (my n) hq)
    ·simp at h
   ·simp at h
  ·split at h
   ·split at h
    ·rename_i q hq;split at h
     ·rename_i p hp;simp at h;subst h;exact aw.fn (ii (my n) hq) (ii (my n) hp)
     ·simp at h
    ·simp at h
   ·simp at h
  all_goals
   split at h
   all_goals first
    |(simp[lA] at h;done)
    |(simp at h;done)
    |(split at h<;>simp[lA] at h;done)
theorem ES{n:Nat}{tv v r:V}(h:rR [] n tv v=some r):C7 r v:=fun m β x hx=>
 (my n tv v r h).2 m β x (i6 n tv v r h m β m β x ⟨rfl,fun id hid=>by simp at hid⟩ hx)
theorem B4{n:Nat}:∀{al bs r:List V},jW (rR [] n) al bs=some r->r.length=bs.length/\∀(i:Nat) c c',r[i]? = some c->bs[i]? = some c'->C7 c c':=by
 intro al bs r h;have h1:=jy (Yo:=Ren 0 (sg [])) (i6 n) h;refine⟨h1.len,fun i c c' hc hc' m β x hx=>?_⟩;exact((ii (my n) h).get hc).2 m β x (h1.get i c c' hc hc' m β m β x ⟨Y,fun id hid=>by simp at hid⟩ hx)
section
variable{K:cS}{Q:bX}{S S':St}{s s':List It}{ops:Array Oper}{l:List Oper}{t:TT}
def Mh(σ:List Nat)(e:bY):bY->Option bY
 |[]=>some []
 |(k,tv)::r=>(match oY e k with|some v=>(match rR σ 8 tv v with|some v'=>(match Mh σ e r with|some q=>some ((k,v')::q)|none=>none)|none=>none)|none=>none)
theorem EU{σ:List Nat}{e:bY}:∀{T r:bY},Mh σ e T=some r->bP (Ren σ.length (sg σ)) e r
 |[],r,h=>by simp[Mh] at h;subst h;exact .nil
 |(k,tv)::T,r,h=>by
  simp only[Mh] at h;split at h
  ·rename_i v hv;split at h
   ·rename_i v' hv';split at h
    ·rename_i q hq;simp at h;subst h;exact .cons (by rw[dN hv];exact i6 _ _ _ _ hv') (EU hq)
    ·simp at h
   ·simp at h
  ·simp at h
def uw(x:Nat):List Nat->Bool
 |[]=>true
 |y::l=>bif Nat.beq x y then false else uw x l
def nodup:List Nat->Bool
 |[]=>true
 |x::l=>bif uw x l then nodup l else false
theorem xP{x:Nat}:∀{l:List Nat},uw x l=true->x ∉ l
 |[],_=>by simp
 |y::l,h=>by
  simp only[uw] at h;cases hb:Nat.beq x y with
  |true=>rw[hb] at h;simp at h
  |false=>
   rw[hb] at h;simp at h;simp[cj9 hb,xP h]
theorem rS:∀{l:List Nat},nodup l=true->∀i,i<l.length->∀j,j<l.length->sg l i=sg l j->i=j
 |[],_,i,hi,_,_,_=>by simp at hi
 |x::l,h,i,hi,j,hj,e=>by
  simp only[nodup] at h;cases hb:uw x l with
  |false=>rw[hb] at h;simp at h
  |true=>
   rw[hb] at h;simp at h;have hx:=xP hb
   have mem:∀q,q<l.length->sg l q∈l:=by
    intro q hq;simp[sg,ck9,ax8 hq]
   cases i with
   |zero=>cases j with
    |zero=>rfl
    |succ j=>
     have:x=sg l j:=by simpa[sg] using e
     exact absurd (this ▸ mem j (by simpa using hj)) hx
   |succ i=>cases j with
    |zero=>
     have:sg l i=x:=by simpa[sg] using e
     exact absurd (this ▸ mem i (by simpa using hi)) hx
    |succ j=>rw[rS h i (by simpa using hi) j (by simpa using hj) (by simpa[sg] using e)]
class RI (rows:List (List V)):Prop where
 h:∀row,row∈rows->cz row
class EI {α:Type} (enc:α->List V):Prop where
 h:∀x,cz (enc x)
 o:∀x,(enc x).all dC=true
class EM {α:Type} (enc:α->Value×V):Prop where
 h:∀x,aw (enc x).2
class RK (rows:List (List V)):Prop where
 h:∀row,row∈rows->iT row
class EK {α:Type} (enc:α->List V):Prop where
 h:∀x,iT (enc x)
class Mq {α:Type} (enc:α->Value×V):Prop where
 h:∀x,dE (enc x).2
instance {α:Type} {enc:α->List V} [i:EI enc] {a:List α}:RI (a.map enc):=⟨ar i.h⟩
instance:RI []:=⟨by simp⟩
theorem HM{rows:List (List V)}(h:∀row,row∈rows->cz row):∀row,row∈rows->∀c,c∈row->c.deep=false:=fun row hr c hc=>(h row hr c hc).1
instance {rows:List (List V)} [i:RI rows]:RK rows:=⟨fun row hr=>(i.h row hr).keep⟩
instance {α:Type} {enc:α->List V} [i:EK enc] {a:List α}:RK (a.map enc):=⟨fun row hr=>by obtain⟨x,_,rfl⟩:=bc9.1 hr;exact i.h x⟩
instance {α:Type} {enc:α->Value×V} [i:EM enc]:Mq enc:=⟨fun x=>(i.h x).2⟩
abbrev HS(σ:List Nat):=bR (Ren σ.length (sg σ)) σ.length (sg σ)
theorem hR{σ:List Nat}{hp T:aD}{id e k:Nat}{rows:List (List V)}[i:RK rows](hn:Nat.blt id σ.length=true)(h:ao hp (sg σ id)=.arr e k rows)(r:HS σ hp T):
  HS σ hp ((id,.arr e k rows)::T):=.cons hn (by rw[h];exact ag.rowsK i.h) r
theorem hD{σ:List Nat}{hp T:aD}{id:Nat}(hn:Nat.blt id σ.length=true)(r:HS σ hp T):HS σ hp ((id,.dead)::T):=.cons hn (by simp[ag]) r
theorem hM{α:Type}{enc:α->Value×V}[i:Mq enc]{σ:List Nat}{hp T:aD}{id:Nat}{es:List α}(hn:Nat.blt id σ.length=true)(h:ao hp (sg σ id)=.map (es.map enc))(r:HS σ hp T):
  HS σ hp ((id,.map (es.map enc))::T):=.cons hn (by
   rw[h];refine ag.mapsK (fun p hp=>?_);obtain⟨x,_,rfl⟩:=bc9.1 hp;exact i.h x) r
theorem hI{σ:List Nat}{hp T:aD}{id:Nat}{c l:List (Value×V)}(hn:Nat.blt id σ.length=true)(h:ao hp (sg σ id)=.iter c l)(r:HS σ hp T):HS σ hp ((id,.iter [] l)::T):=
 .cons hn (by rw[h];exact⟨by simp,rfl,jx.h⟩) r
theorem hB{σ:List Nat}{hp T:aD}{id e k:Nat}{row row':List V}(hn:Nat.blt id σ.length=true)(h:ao hp (sg σ id)=.arr e k [row'])(hz:jW (rR σ 8) row row'=some row)(r:HS σ hp T):
  HS σ hp ((id,.arr e k [row])::T):=.cons hn (by rw[h];exact ag.boxC (o7 (fun _ _ _ h=>xO h) hz).1 (o7 (fun _ _ _ h=>xO h) hz).2) r
def uq(σ:List Nat):Nat->Bool
 |0=>true
 |q+1=>match lA σ q with|some j=>(match Nat.beq j q with|true=>uq σ q|false=>false)|none=>false
theorem rM{σ:List Nat}:∀{p:Nat},uq σ p=true->pe σ.length (sg σ) p=true
 |0,_=>rfl
 |q+1,h=>by
  simp only[uq] at h;split at h
  ·rename_i j hj;split at h
   ·rename_i hb;obtain⟨h1,h2⟩:=j3 hj;simp only[pe,h1,h2,hb,rM h,Bool.and_self]
   ·simp at h
  ·simp at h
theorem gr{e env:bY}{hp T:aD}{nx n:Nat}(σ:List Nat)(he:Mh σ e env=some env)(hh:HS σ hp T)(hc:(nodup σ&&(fU n σ&&uq σ K.pins))=true):aV K ⟨e,hp,nx⟩ ⟨env,T,n⟩:=by
 simp only[ap9] at hc;have hl:=el hc.2.1;subst hl;exact bc σ.length (sg σ) _ _ (rS hc.1) (EU he).get hh.get (rM hc.2.2)
theorem g0{e env:bY}{hp:aD}{nx:Nat}(he:Mh [] e env=some env)(hc:uq [] K.pins=true):aV K ⟨e,hp,nx⟩ ⟨env,[],0⟩:=gr [] he .nil (by simp[nodup,fU,hc])
def Oz(t:TT)(e:bY)(hp:aD):ResultVar->Option V
 | .tmp x=>oY e x
 | .cell x T=>(match oY e x with
  |some (.ptr id k i o)=>(match pk hp id with
   |some (.arr _ k2 rows)=>(match Nat.beq k k2 with|true=>(match lA rows i with|some row=>CC t T row o|none=>none)|false=>none)
   |_=>none)
  |_=>none)
theorem KD(ht:cK K.P t){rv:ResultVar}{v d:V}(h:Oz t S.env S.hp rv=some v)(hd:rR [] 8 d v=some d):eC K.P S rv d:=by
 have hi:=ES hd;cases rv with
 |tmp x=>exact .tmp (dN h) hi
 |cell x T=>
  simp only[Oz] at h;split at h
  ·rename_i hx;split at h
   ·rename_i ho;split at h
    ·rename_i hk;have hk:=cg9 hk;subst hk;split at h
     ·rename_i row hr;cases hn:dq t T TF.qA with
      |some n=>
       obtain⟨cs,rfl,hc,hdd⟩:=qT hn h;exact .agg (Iv ht hn) (dN hx) (fI ho) (eL hr) (lM hc).1 (lM hc).2 hdd hi
      |none=>
       obtain⟨hq,hc,hdd⟩:=oq hn h;exact .cell (Iu ht hq) (dN hx) (fI ho) (eL hr) (eL hc) hdd hi
     grind
    grind
   grind
  grind
def Di(t:TT)(S:St)(rv:ResultVar)(d:V):Option V:=match Oz t S.env S.hp rv with|some v=>rR [] 8 d v|none=>none
theorem ji(ht:cK K.P t){rv:ResultVar}{d:V}(h:Di t S rv d=some d):eC K.P S rv d:=by
 grind [Di,KD]
variable{R:Type}{x r:R}
def OA(t:TT)(S:St):List ResultVar->V->Option V
 |[],d=>(match d with | .tup ds=>(match ds with|[]=>some (.tup [])|_=>none)|_=>none)
 |[a],d=>Di t S a d
 |[a,b],d=>(match d with
  | .tup ds=>(match ds with
   |[x,y]=>(match Di t S a x with|some x'=>(match Di t S b y with|some y'=>some (.tup [x',y'])|none=>none)|none=>none)
   |_=>none)
  |_=>none)
 |[a,b,c],d=>(match d with
  | .tup ds=>(match ds with
   |[x,y,z]=>(match Di t S a x with|some x'=>(match Di t S b y with|some y'=>(match Di t S c z with|some z'=>some (.tup [x',y',z'])|none=>none)|none=>none)|none=>none)
   |_=>none)
  |_=>none)
 |[a,b,c,e],d=>(match d with
  | .tup ds=>(match ds with
   |[x,y,z,u]=>(match Di t S a x with|some x'=>(match Di t S b y with|some y'=>(match Di t S c z with|some z'=>(match Di t S e u with|some u'=>some (.tup [x',y',z',u'])|none=>none)|none=>none)|none=>none)|none=>none)
   |_=>none)
  |_=>none)
 |_,_=>none
theorem KG(ht:cK K.P t){l:List ResultVar}{d:V}(h:OA t S l d=some d):wU K.P S l d:=by
 unfold OA at h;split at h
 ·split at h
  ·split at h
   ·exact .none
   grind
  grind
 ·exact .one (ji ht h)
 ·split at h
  ·split at h
   ·split at h
    ·rename_i h1;split at h
     ·rename_i h2;simp at h;obtain⟨rfl,rfl⟩:=h;exact .two (ji ht h1) (ji ht h2)
     grind
    grind
   grind
  grind
 ·split at h
  ·split at h
   ·split at h
    ·rename_i h1;split at h
     ·rename_i h2;split at h
      ·rename_i h3;simp at h;obtain⟨rfl,rfl,rfl⟩:=h;exact .three (ji ht h1) (ji ht h2) (ji ht h3)
      grind
     grind
    grind
   grind
  grind
 ·split at h
  ·split at h
   ·split at h
    ·rename_i h1;split at h
     ·rename_i h2;split at h
      ·rename_i h3;split at h
       ·rename_i h4;simp at h;obtain⟨rfl,rfl,rfl,rfl⟩:=h;exact .four (ji ht h1) (ji ht h2) (ji ht h3) (ji ht h4)
       grind
      grind
     grind
    grind
   grind
  grind
 grind
def My(P:Program)(l:List ResultVar)(d:R->V)(r:R):bX:=Mz P l (d r)
theorem rt[ht:TC K t]{d:R->V}{l:List ResultVar}(h:some x=some r)(hv:OA t S l (d x)=some (d x)):WG K (My K.P l d r) (.c .ret::s) S:=by
 have:=ah9 h;subst this;exact wz (iy ⟨.inl Y,KG ht.h hv⟩)
theorem pin{gl:Gl}{P:Program}{f:FuncId}{fn:Func}{c:Code}{N:Nat}{args:List V}{l:List ResultVar}{env:bY}{dr:V}(d:R->V)(r:R)(hd:d r=dr)(hf:P.funcs[f]? = some fn)(hb:fn.body=some c)(hN:fn.ntmps=N)
  (hl:fn.results=l.toArray) (ha:Nat.ble args.length N=true) (henv:CM (fZ 0 args)=some env)
  (h:∀(w0:World) (m0:bA) (hg:go gl m0),WG (OQ gl P N w0 m0 hg) (My P l d r) [.c c] ⟨env,[],0⟩):dX gl P f args dr:=hd ▸ zC hf hb hN hl ha env (jo henv) h
theorem ck{p:Prop}[Decidable p]{A:Option R}{G:Prop}(h:(if p then A else none)=some r)(k:p->A=some r->G):G:=let ⟨a,b⟩:=Ge h;k a b
def pX(N:Nat)(ops:Array Oper)(e:bY)(o:Oper):Option Nat:=
 match wt ops e o.guard with
 |some b=>(match b with|true=>(match o.dst with|some d=>(match Nat.blt d N with|true=>some d|false=>none)|none=>none)|false=>none)
 |none=>none
theorem ko{e:bY}(ha:Ag e S){o:Oper}{N d:Nat}(h:pX N ops e o=some d):aT ops S o true/\o.dst=some d/\Nat.blt d N=true:=by
 grind [pX,i4]
def Ha(t:TT)(e:bY):Op->Option (V×Int×Nat)
 | .indexAddr T x y=>(match dq t T TF.qSl with
  |some k=>(match eu e x with
   |some v=>(match eu e y with|some (.con (.int _ n))=>some (v,n,k)|_=>none)
   |none=>none)
  |none=>none)
 |_=>none
section
variable{α:Type}{a:List α}{n:Int}{y:α}{enc:α->List V}{d k:Nat}{o:Oper}{e:bY}{hp:aD}{nx:Nat}
theorem MN(ht:cK K.P t)(hx:cn a n=some y)(hd:pX K.N ops e o=some d)(hs:Ha t e o.op=some (.lst k (a.map enc),n,k))
  (ha:Ag e S) (kk:ax K ops l Q (S.put d (.iptr (enc y) 0))):ax K ops (o::l) Q S:=by
 obtain⟨dst,op,ty,pos,after,g⟩:=o;obtain⟨h1,h2,h3⟩:=ko ha hd;simp only at h2;subst h2;cases op<;>simp only[Ha,reduceCtorEq] at hs;split at hs
 ·rename_i hk;split at hs
  ·rename_i hv;split at hs
   ·rename_i hy;simp only[av8,Prod.mk.injEq] at hs;obtain⟨rfl,rfl,rfl⟩:=hs;exact iM _ (yB ht hk) h1 (aU ha hv) (aU ha hy) (gF hx).1 (gW enc hx) h3 kk
   ·simp at hs
  ·simp at hs
 ·simp at hs
theorem gQ[ht:TC K t](hx:cn a n=some y)(hd:pX K.N ops e o=some d)(hs:Ha t e o.op=some (.lst k (a.map enc),n,k))
  (kk:WG K Q (.o ops l::s) ⟨(d,.iptr (enc y) 0)::e,hp,nx⟩):WG K Q (.o ops (o::l)::s) ⟨e,hp,nx⟩:=MN ht.h hx hd hs (wS (S:=⟨e,hp,nx⟩)) kk
theorem gP{f:α->Option R}[ht:TC K t](h:(cn a n).bind f=some r)(hd:pX K.N ops e o=some d)(hs:Ha t e o.op=some (.lst k (a.map enc),n,k))
  (kk:∀y,cn a n=some y->f y=some r->WG K Q (.o ops l::s) ⟨(d,.iptr (enc y) 0)::e,hp,nx⟩):WG K Q (.o ops (o::l)::s) ⟨e,hp,nx⟩:=
 let ⟨y,hy,h⟩:=bind_some h;gQ hy hd hs (kk y hy h)
theorem JA{id len:Nat}(ht:cK K.P t)(hx:cn a n=some y)(hd:pX K.N ops e o=some d)(hs:Ha t e o.op=some (.own id len,n,k))(hl:len=a.length)
  (ha:Ag e S) (kk:ax K ops l Q (S.put d (.ptr id k n.toNat 0))):ax K ops (o::l) Q S:=by
 obtain⟨dst,op,ty',pos,after,g⟩:=o;obtain⟨h1,h2,h3⟩:=ko ha hd;simp only at h2;subst h2;cases op<;>simp only[Ha,reduceCtorEq] at hs;split at hs
 ·rename_i hk;split at hs
  ·rename_i hv;split at hs
   ·rename_i hy;simp only[av8,Prod.mk.injEq] at hs;obtain⟨rfl,rfl,rfl⟩:=hs;exact lR (yB ht hk) h1 (aU ha hv) (aU ha hy) (gF hx).1 (by rw[hl];exact KW hx) h3 kk
   ·simp at hs
  ·simp at hs
 ·simp at hs
theorem zU{id len:Nat}[ht:TC K t](hx:cn a n=some y)(hd:pX K.N ops e o=some d)(hs:Ha t e o.op=some (.own id len,n,k))(hl:len=a.length)
  (kk:WG K Q (.o ops l::s) ⟨(d,.ptr id k n.toNat 0)::e,hp,nx⟩):WG K Q (.o ops (o::l)::s) ⟨e,hp,nx⟩:=JA ht.h hx hd hs hl (wS (S:=⟨e,hp,nx⟩)) kk
theorem JB{f:α->Option R}{id len:Nat}[ht:TC K t](h:(cn a n).bind f=some r)(hd:pX K.N ops e o=some d)(hs:Ha t e o.op=some (.own id len,n,k))(hl:len=a.length)
  (kk:∀y,cn a n=some y->f y=some r->WG K Q (.o ops l::s) ⟨(d,.ptr id k n.toNat 0)::e,hp,nx⟩):WG K Q (.o ops (o::l)::s) ⟨e,hp,nx⟩:=
 let ⟨y,hy,h⟩:=bind_some h;zU hy hd hs hl (kk y hy h)
def ixS(t:TT)(e:bY):Op->Option (ByteArray×Int)
 | .index T x y=>(match dq t T TF.qStr with
  |some _=>(match eu e x with
   |some (.con v)=>(match v with | .string s=>(match eu e y with|some (.con (.int _ n))=>some (s,n)|_=>none)|_=>none)
   |_=>none)
  |none=>none)
 |_=>none
theorem Jz{f:UInt8->Option R}{b:B8}[ht:TC K t](h:(cn b n).bind f=some r)(hd:pX K.N ops e o=some d)(hs:ixS t e o.op=some (⟨b.toArray⟩,n))
  (kk:∀y,cn b n=some y->f y=some r->WG K Q (.o ops l::s) ⟨(d,.con (.int .u8 y.toNat))::e,hp,nx⟩):WG K Q (.o ops (o::l)::s) ⟨e,hp,nx⟩:=by
 obtain⟨y,hy,hf⟩:=bind_some h;obtain⟨dst,op,ty',pos,after,g⟩:=o;obtain⟨h1,h2,h3⟩:=ko (wS (S:=⟨e,hp,nx⟩)) hd;simp only at h2;subst h2;cases op<;>simp only[ixS,reduceCtorEq] at hs;split at hs
 ·rename_i hk;split at hs
  ·rename_i hv;split at hs
   ·split at hs
    ·rename_i hyy;simp only[av8,Prod.mk.injEq] at hs;obtain⟨rfl,rfl⟩:=hs;exact p8 y (wB ht.h hk) h1 (aU (wS (S:=⟨e,hp,nx⟩)) hv) (aU (wS (S:=⟨e,hp,nx⟩)) hyy) (gF hy).1 (gF hy).2 h3 (kk y hy hf)
    ·simp at hs
   ·simp at hs
  ·simp at hs
 ·simp at hs
def N7(t:TT)(e:bY):Op->Option V
 | .call c=>(match c.callee with
  | .builtin b=>(match b,c.args.toList,c.argTypes.toList with
   | .len,[x],[T]=>(match dq t T TF.qSn with|some _=>eu e x|none=>none)
   |_,_,_=>none)
  |_=>none)
 |_=>none
theorem lnA(ht:cK K.P t)(hd:pX K.N ops e o=some d)(hs:N7 t e o.op=some (.lst k (a.map enc)))
  (ha:Ag e S) (kk:ax K ops l Q (S.put d (iV a.length))):ax K ops (o::l) Q S:=by
 obtain⟨dst,op,ty',pos,after,g⟩:=o;obtain⟨h1,h2,h3⟩:=ko ha hd;simp only at h2;subst h2;cases op<;>simp only[N7,reduceCtorEq] at hs;rename_i c;obtain⟨callee,args,at'⟩:=c;simp only at hs;split at hs
 ·split at hs
  ·rename_i h4 h5;have h4:=fe h4;have h5:=fe h5;subst h4;subst h5;split at hs
   ·rename_i hT;exact sS (n:=a.length) (jT ht hT) h1 (aU ha hs) (congrArg some (bf8 ..)) h3 kk
   ·simp at hs
  ·simp at hs
 ·simp at hs
theorem ln[ht:TC K t](hd:pX K.N ops e o=some d)(hs:N7 t e o.op=some (.lst k (a.map enc)))
  (kk:WG K Q (.o ops l::s) ⟨(d,iV a.length)::e,hp,nx⟩):WG K Q (.o ops (o::l)::s) ⟨e,hp,nx⟩:=lnA ht.h hd hs (wS (S:=⟨e,hp,nx⟩)) kk
def N8(e:bY):Op->Option (V×Nat)
 | .load T x=>(match eu e x with|some v=>some (v,T)|none=>none)
 |_=>none
theorem MK{id ty off T:Nat}{v:V}(ht:cK K.P t)(hx:cn a n=some y)(hd:pX K.N ops e o=some d)(hs:N8 e o.op=some (.ptr id k n.toNat off,T))(ho:ao S.hp id=.arr ty k (a.map enc))
  (hv:CC t T (enc y) off=some v) (ha:Ag e S) (kk:ax K ops l Q (S.put d v)):ax K ops (o::l) Q S:=by
 obtain⟨dst,op,ty',pos,after,g⟩:=o;obtain⟨h1,h2,h3⟩:=ko ha hd;simp only at h2;subst h2;cases op<;>simp only[N8,reduceCtorEq] at hs;split at hs
 ·rename_i hxx;simp only[av8,Prod.mk.injEq] at hs;obtain⟨rfl,rfl⟩:=hs;exact Jy ht hv (aU ha hxx) ho (gW enc hx) h1 h3 kk
 ·simp at hs
theorem CB{id ty off T:Nat}{v:V}[ht:TC K t](hx:cn a n=some y)(hd:pX K.N ops e o=some d)(hs:N8 e o.op=some (.ptr id k n.toNat off,T))(ho:ao hp id=.arr ty k (a.map enc))
  (hv:CC t T (enc y) off=some v) (kk:WG K Q (.o ops l::s) ⟨(d,v)::e,hp,nx⟩):WG K Q (.o ops (o::l)::s) ⟨e,hp,nx⟩:=MK (S:=⟨e,hp,nx⟩) ht.h hx hd hs ho hv (wS (S:=⟨e,hp,nx⟩)) kk
def stD(t:TT)(e:bY):Op->Option (V×List V×Nat)
 | .store T x y=>(match dq t T TF.qS with
  |some n=>(match eu e x with
   |some p=>(match eu e y with
    |some v=>(match J1 v with|some cs=>(match fU n cs&&yL cs with|true=>some (p,cs,n)|false=>none)|none=>none)
    |none=>none)
   |none=>none)
  |none=>none)
 |_=>none
theorem stS{id ty off m:Nat}{cs:List V}(z:α)[ht:TC K t](hx:cn a n=some y)(hw:wt ops e o.guard=some true)(hd:o.dst=none)(hs:stD t e o.op=some (.ptr id k n.toNat off,cs,m))(ho:ao hp id=.arr ty k (a.map enc))
  (hz:(enc y).take off++cs++(enc y).drop (off+m)=enc z) (hl:Nat.ble (off+m) (enc y).length=true)
  (kk:WG K Q (.o ops l::s) ⟨e,(id,.arr ty k ((a.set n.toNat z).map enc))::hp,nx⟩):WG K Q (.o ops (o::l)::s) ⟨e,hp,nx⟩:=by
 obtain⟨dst,op,ty',pos,after,g⟩:=o;have h1:=i4 (wS (S:=⟨e,hp,nx⟩)) hw;simp only at hd;subst hd;cases op<;>simp only[stD,reduceCtorEq] at hs;split at hs
 ·rename_i hS;split at hs
  ·rename_i hp';split at hs
   ·rename_i hv;split at hs
    ·rename_i hc;split at hs
     ·rename_i hb;simp only[ap9] at hb;simp only[av8,Prod.mk.injEq] at hs;obtain⟨rfl,rfl,rfl⟩:=hs;have hlen:=el hb.1;subst hlen;exact dz _ _ (Lm ht.h hS) h1 (aU (wS (S:=⟨e,hp,nx⟩)) hp') (aU (wS (S:=⟨e,hp,nx⟩)) hv) (rp hc) (mN hb.2) ho (gW enc hx) hl (by rw[hz];exact map_set enc a _ z) kk
     ·simp at hs
    ·simp at hs
   ·simp at hs
  ·simp at hs
 ·simp at hs
end
theorem CX{o:Oper}{f:FuncId}{fx:Operand}{first captured:List V}{args:Array Operand}{at':Array TypeId}{avs avs0:List V}(hf:cM K.P f=true)(ho:o.op=.call ⟨.value fx,args,at'⟩)
  (hfx:evl K S fx=.fn (.func f) first captured) (ha:first++args.toList.map (evl K S)++captured=avs0)
  (hi:avs.length=avs0.length/\∀(i:Nat) c c',avs[i]? = some c->avs0[i]? = some c'->C7 c c'):
  ∀m β w a,bQ K m β w a S->∃vs:Array Value,(execOp a.eval o).run K.P w=.ok (.enter f vs) w/\tu m avs vs:=by
 intro m β w a r;have h:=r.reads fx;rw[hfx] at h
 have key:∃fs cs:Array Value,a.eval fx=.func (.func f) fs cs/\first.length=fs.size/\captured.length=cs.size/\(∀(i:Nat) c v,first[i]? = some c->fs[i]? = some v->bn m β c v)/\
   ∀(i:Nat) c v,captured[i]? = some c->cs[i]? = some v->bn m β c v:=by
  generalize a.eval fx=v at h;cases h with
  |imm h=>cases h with|fn h1 h2 h3 h4=>exact⟨_,_,rfl,h1,h2,fun i c v a b=>.imm (h3 i c v a b),fun i c v a b=>.imm (h4 i c v a b)⟩
  |fn h1 h2 h3 h4=>grind
 obtain⟨fs,cs,e1,e2,e3,e4,e5⟩:=key;refine⟨fs++args.map a.eval++cs,?_,?_⟩
 ·simp_all[execOp,resolve,Deferred.ofValue,invoke,fy]
 ·refine⟨by grind,fun i c v h1 h2=>?_⟩;obtain⟨c',hc'⟩:∃c',avs0[i]? = some c':=⟨avs0[i]'(by grind),by simp⟩;refine hi.2 i c c' h1 hc' m β v ?_
  clear h1
  have h1:=hc';rw[<-ha,bq8,bf9,bf8] at h1;rw[ca8,bz8,Array.size_map,<-e2] at h2;simp only[bh9] at h1;split at h1
  ·rename_i hlt;rw[if_pos hlt] at h2;rw[bq8] at h1;rw[ca8,<-e2] at h2;split at h1
   ·grind
   ·rename_i hlt';rw[if_neg hlt'] at h2;rw[ay9] at h1;rw[bz9] at h2;cases hx:args[i - first.length]? with
    |none=>grind
    |some x=>
     simp[hx] at h1 h2;subst h1;subst h2;exact r.reads x
  grind
def Li(e:bY):Op->Option (Nat×List V)
 | .call c=>(match c.callee with
  | .value x=>(match eu e x with
   |some (.fn g first caps)=>(match g with
    | .func f=>(match H9 e c.args.toList with
     |some vs=>(match CM (first++vs++caps) with|some r=>some (f,r)|none=>none)
     |none=>none)
    |_=>none)
   |_=>none)
  |_=>none)
 |_=>none
theorem clA{f d:Nat}{avs avs0:List V}{res:V}{o:Oper}{e:bY}(ht:cK K.P t)(hd:pX K.N ops e o=some d)
  (hs:Li e o.op=some (f,avs0)) (hF:dq t f TF.qFn=some ()) (hW:dX K.gl K.P f avs res) (hz:jW (rR [] 8) avs avs0=some avs) (ha:Ag e S)
  (kk:ax K ops l Q (S.put d res)):ax K ops (o::l) Q S:=by
 obtain⟨h1,h2,h3⟩:=ko ha hd;obtain⟨dst,op,ty',pos,after,g⟩:=o;cases op<;>simp only[Li,reduceCtorEq] at hs;rename_i c;obtain⟨callee,args,at'⟩:=c;simp only at hs;split at hs
 ·rename_i x;split at hs
  ·rename_i first caps hx
   split at hs
   ·split at hs
    ·rename_i vs hv;split at hs
     ·rename_i q hq;simp only[av8,Prod.mk.injEq] at hs;obtain⟨rfl,rfl⟩:=hs;have hq:=jo hq;have hv:=sD (K:=K) ha hv;exact iN h1 h2 h3 (CX (S:=S) (Nf ht hF) Y (aU ha hx) (by rw[hv];exact hq) (B4 hz)) hW kk
     ·simp at hs
    ·simp at hs
   ·simp at hs
  ·simp at hs
 ·simp at hs
theorem cl{A:Type}{mm:Option A}{fk:A->Option R}{f d:Nat}{avs avs0:List V}{res:A->V}{o:Oper}{e:bY}{hp:aD}{nx:Nat}[ht:TC K t](h:mm.bind fk=some r)(hd:pX K.N ops e o=some d)
  (hs:Li e o.op=some (f,avs0)) (hF:dq t f TF.qFn=some ()) (hW:∀y,mm=some y->dX K.gl K.P f avs (res y)) (ha:jW (rR [] 8) avs avs0=some avs)
  (kk:∀y,mm=some y->fk y=some r->WG K Q (.o ops l::s) ⟨(d,res y)::e,hp,nx⟩):WG K Q (.o ops (o::l)::s) ⟨e,hp,nx⟩:=by
 obtain⟨y,hy,h⟩:=bind_some h;exact clA ht.h hd hs hF (hW y hy) ha (wS (S:=⟨e,hp,nx⟩)) (kk y hy h)
def Nl(t:TT)(e:bY):Op->Option (V×V×Nat×Nat×Nat)
 | .call c=>(match c.callee with
  | .builtin b=>(match b,c.args.toList,c.argTypes.toList with
   | .append,[x,y],[T,T']=>(match dq t T TF.qEl with
    |some (E,k,by')=>(match dq t T' TF.qSn with
     |some _=>(match eu e x with|some v=>(match eu e y with|some u=>some (v,u,E,k,by')|none=>none)|none=>none)
     |none=>none)
    |none=>none)
   |_,_,_=>none)
  |_=>none)
 |_=>none
theorem OY{α:Type}{xs ys:List α}{enc:α->List V}{d id n E k bytes:Nat}{sv:V}{o:Oper}{e:bY}{hp:aD}{nx:Nat}[ht:TC K t](hb:(xs++ys).length*bytes<=140737488355328\/((ys.map enc).length=1/\(xs++ys).length*bytes<=211106232532992/\bytes<=1000000))(hd:pX K.N ops e o=some d)
  (hs:Nl t e o.op=some (.own id n,sv,E,k,bytes)) (ho:ao hp id=.arr E k (xs.map enc)) (hn:xs.length=n) (hsrc:xm ⟨e,hp,nx⟩ k sv (ys.map enc)) (hp0:(Nat.blt 0 bytes&&Nat.blt 0 k)=true)
  (kk:WG K Q (.o ops l::s) ⟨(d,.own nx (xs++ys).length)::e,(nx,.arr E k ((xs++ys).map enc))::(id,.dead)::hp,nx+1⟩):WG K Q (.o ops (o::l)::s) ⟨e,hp,nx⟩:=by
 obtain⟨h1,h2,h3⟩:=ko (wS (S:=⟨e,hp,nx⟩)) hd;simp only[ap9] at hp0;obtain⟨dst,op,ty',pos,after,g⟩:=o;simp only at h2;subst h2;cases op<;>simp only[Nl,reduceCtorEq] at hs;rename_i c;obtain⟨callee,args,at'⟩:=c;simp only at hs;split at hs
 ·split at hs
  ·rename_i h4 h5;have h4:=dt h4;have h5:=dt h5;subst h4;subst h5;split at hs
   ·rename_i hE;split at hs
    ·rename_i hS;split at hs
     ·rename_i hx;split at hs
      ·rename_i hy;simp only[av8,Prod.mk.injEq] at hs;obtain⟨rfl,rfl,rfl,rfl,rfl⟩:=hs;exact oO (S:=⟨e,hp,nx⟩) (ys.map enc) ((xs++ys).map enc) (kO ht.h hE) (jT ht.h hS) hp0.1 hp0.2 h1 (aU (wS (S:=⟨e,hp,nx⟩)) hx) ho (by simp[hn]) (aU (wS (S:=⟨e,hp,nx⟩)) hy) hsrc (dU enc xs ys) (bf8 ..) hb h3 kk
      ·simp at hs
     ·simp at hs
    ·simp at hs
   ·simp at hs
  ·simp at hs
 ·simp at hs
theorem apX{α:Type}{xs ys:List α}{enc:α->List V}{d id n E k bytes:Nat}{sv:V}{o:Oper}{e:bY}{hp:aD}{nx:Nat}[ht:TC K t](hb:(xs++ys).length*bytes<=140737488355328)(hd:pX K.N ops e o=some d)
  (hs:Nl t e o.op=some (.own id n,sv,E,k,bytes)) (ho:ao hp id=.arr E k (xs.map enc)) (hn:xs.length=n) (hsrc:xm ⟨e,hp,nx⟩ k sv (ys.map enc)) (hp0:(Nat.blt 0 bytes&&Nat.blt 0 k)=true)
  (kk:WG K Q (.o ops l::s) ⟨(d,.own nx (xs++ys).length)::e,(nx,.arr E k ((xs++ys).map enc))::(id,.dead)::hp,nx+1⟩):WG K Q (.o ops (o::l)::s) ⟨e,hp,nx⟩:=
 OY (.inl hb) hd hs ho hn hsrc hp0 kk
theorem oZ{α:Type}{A:Option R}{xs ys:List α}{d id n id2 n2 E E2 k bytes:Nat}{rows2:List (List V)}{o:Oper}{e:bY}{hp:aD}{nx:Nat}(enc:α->List V)[i:EI enc][ht:TC K t]
  (h:(if (xs++ys).length*bytes<=140737488355328 then A else none)=some r) (hd:pX K.N ops e o=some d)
  (hs:Nl t e o.op=some (.own id n,.own id2 n2,E,k,bytes)) (ho:ao hp id=.arr E k (xs.map enc)) (hn:xs.length=n) (ho2:ao hp id2=.arr E2 k rows2) (hr2:rows2=ys.map enc) (hn2:ys.length=n2) (hp0:(Nat.blt 0 bytes&&Nat.blt 0 k)=true)
  (kk:A=some r->WG K Q (.o ops l::s) ⟨(d,.own nx (xs++ys).length)::e,(nx,.arr E k ((xs++ys).map enc))::(id,.dead)::hp,nx+1⟩):WG K Q (.o ops (o::l)::s) ⟨e,hp,nx⟩:=
 ck h fun hb h=>apX hb hd hs ho hn (.own (by rw[ho2,hr2]) (by simp[hn2]) (HM (ar i.h))) hp0 (kk h)
theorem apL{α:Type}{A:Option R}{xs ys:List α}{d id n E k bytes:Nat}{o:Oper}{e:bY}{hp:aD}{nx:Nat}(enc:α->List V)[i:EI enc][ht:TC K t]
  (h:(if (xs++ys).length*bytes<=140737488355328 then A else none)=some r) (hd:pX K.N ops e o=some d)
  (hs:Nl t e o.op=some (.own id n,.lst k (ys.map enc),E,k,bytes)) (ho:ao hp id=.arr E k (xs.map enc)) (hn:xs.length=n) (hp0:(Nat.blt 0 bytes&&Nat.blt 0 k)=true)
  (kk:A=some r->WG K Q (.o ops l::s) ⟨(d,.own nx (xs++ys).length)::e,(nx,.arr E k ((xs++ys).map enc))::(id,.dead)::hp,nx+1⟩):WG K Q (.o ops (o::l)::s) ⟨e,hp,nx⟩:=
 ck h fun hb h=>apX hb hd hs ho hn (.lst (dp i.o)) hp0 (kk h)
theorem jK{κ α:Type}{b:κ->Option R}{k:κ}{x:Code}(h:jn k b=some r)(T:α->St)(G:κ->α->Prop)(h1:∀k,b k=some r->WG K Q (.c x::.j (Jn K T (G k))::s) S)(h2:∀p,G k p->WG K Q s (T p)):
  WG K Q (.c x::s) S:=jC T (G k) (h1 k h) h2
theorem jE{α:Type}{T:α->St}{G:α->Prop}(p:α)(h:G p)(hg:aV K S (T p)):∃p,G p/\aV K S (T p):=⟨p,h,hg⟩
theorem jX{α:Type}{T:α->St}{G:α->Prop}(p:α)(h:G p)(hg:aV K S (T p)):WG K Q (.j (Jn K T G)::s) S:=⟨p,h,hg⟩
theorem wE(h:Q .normal S):WG K Q [] S:=h
theorem wR(h:Q .ret S):WG K Q (.c .ret::s) S:=wz (iy h)
def frS:St->Option St
 |⟨e,hp,nx⟩=>(match CM e with|some e'=>(match CM hp with|some hp'=>some ⟨e',hp',nx⟩|none=>none)|none=>none)
theorem bs{A B:Option R}{c:Bool}{G:Prop}(h:(if c=true then A else B)=some r)(kt:c=true->A=some r->G)(kf:c=false->B=some r->G):G:=by
 grind
theorem wl{α:Type}{A:List α}{enc:α->List V}{k:Nat}{e:bY}{hp:aD}{nx:Nat}{x:Code}(n:Nat)(hc:oY e n=some (.lst k (A.map enc)))(h:A.length<=maxLen->WG K Q (.c x::s) ⟨e,hp,nx⟩):WG K Q (.c x::s) ⟨e,hp,nx⟩:=
 Ir n (dN hc) h
theorem Mc{α:Type}{A:List α}{enc:α->List V}{k ty:Nat}{e:bY}{hp:aD}{nx:Nat}{x:Code}(n:Nat)(hc:ao hp n=.arr ty k (A.map enc))(h:A.length<=maxLen->WG K Q (.c x::s) ⟨e,hp,nx⟩):WG K Q (.c x::s) ⟨e,hp,nx⟩:=
 Gp n hc h
def N4:List Operand->List Nat
 |[]=>[]
 | .tmp t::l=>t::N4 l
 |_::l=>N4 l
def OC:Op->List Operand
 | .move x=>[x]
 | .assign x=>[x]
 | .load _ x=>[x]
 | .nilCheck x=>[x]
 | .unOp _ _ x=>[x]
 | .convert _ _ x=>[x]
 | .fieldAddr _ x _=>[x]
 | .field _ x _=>[x]
 | .extract x _=>[x]
 | .pick a b c=>[a,b,c]
 | .build _ ps=>ps.toList.map (·.2)
 | .store _ a b=>[a,b]
 | .binOp _ _ a b _=>[a,b]
 | .indexAddr _ a b=>[a,b]
 | .index _ a b=>[a,b]
 | .makeFunc _ _ cs=>cs.toList
 | .call c=>(match c.callee with | .value f=>f::c.args.toList|_=>c.args.toList)
 |_=>[]
def grd(ops:Array Oper)(o:Oper)(l:List Nat):Option (List Nat):=
 match o.guard with
 |none=>some l
 |some p=>(match p with|(j,_)=>(match ops[j]? with|some o'=>(match o'.dst with|some t=>some (t::l)|none=>none)|none=>none))
def Mg(e:bY):List Nat->Option bY
 |[]=>some []
 |t::l=>(match oY e t with|some v=>(match Mg e l with|some r=>some ((t,v)::r)|none=>none)|none=>none)
def Jt(ops:Array Oper)(o:Oper)(e:bY):Option bY:=match grd ops o (N4 (OC o.op)) with|some l=>Mg e l|none=>none
theorem zA{e:bY}:∀{l:List Nat} {re:bY},Mg e l=some re->sY e re
 |[],re,h=>by simp[Mg] at h;subst h;trivial
 |t::l,re,h=>by
  simp only[Mg] at h;split at h
  ·rename_i v hv;split at h
   ·rename_i q hq;simp at h;subst h;exact⟨dN hv,zA hq⟩
   ·simp at h
  ·simp at h
theorem pd{o:Oper}{e re:bY}(h:Jt ops o e=some re):sY e re:=by
 grind [Jt,zA]
theorem da{S:St}:∀{re:bY},sY S.env re->Ag re S
 |[],_,t,v,h=>by simp[oY] at h
 |(k,x)::re,hr,t,v,h=>by
  simp only[oY] at h;cases hb:Nat.beq k t with
  |true=>rw[hb] at h;simp at h;subst h;rw[<-cg9 hb];exact hr.1
  |false=>rw[hb] at h;simp at h;exact da (S:=S) hr.2 t v h
theorem nK{S:St}:∀{rh:aD},kY S.hp rh->G6 rh S
 |[],_,t,v,h=>by simp[pk] at h
 |(k,x)::re,hr,t,v,h=>by
  simp only[pk] at h;cases hb:Nat.beq k t with
  |true=>rw[hb] at h;simp at h;subst h;rw[<-cg9 hb];exact hr.1
  |false=>rw[hb] at h;simp at h;exact nK (S:=S) hr.2 t v h
def N9(e:bY)(hp:aD)(x:Operand):Option aD:=
 match eu e x with
 |some v=>(match v with | .ptr id _ _ _=>(match pk hp id with|some ob=>some [(id,ob)]|none=>none)|_=>some [])
 |none=>none
def OJ(e:bY)(hp:aD):Op->Option aD
 | .load _ x=>N9 e hp x
 | .store _ x _=>N9 e hp x
 |_=>some []
theorem KY{e:bY}{hp rh:aD}{x:Operand}(h:N9 e hp x=some rh):kY hp rh:=by
 unfold N9 at h;split at h
 ·split at h
  ·split at h
   ·rename_i ho;simp at h;subst h;exact⟨fI ho,trivial⟩
   grind
  ·simp at h;subst h;trivial
 grind
theorem KZ{e:bY}{hp rh:aD}{op:Op}(h:OJ e hp op=some rh):kY hp rh:=by
 cases op<;>simp only[OJ] at h<;>first|exact KY h|(simp at h;subst h;trivial)
def od(t:TT)(N:Nat)(ops:Array Oper)(o:Oper):St->Option (OD×St)
 |⟨e,hp,nx⟩=>
  match Jt ops o e with
  |none=>none
  |some re=>(match wt ops re o.guard with
   |none=>none
   |some b=>(match b with
    |false=>(match o.dst with|some d=>(match Nat.blt d N with|true=>some (⟨re,[],[(d,.con undef)],[]⟩,⟨(d,.con undef)::e,hp,nx⟩)|false=>none)|none=>none)
    |true=>(match OJ re hp o.op with
     |none=>none
     |some rh=>(match o.dst with
      |some d=>(match Nat.blt d N with
       |false=>none
       |true=>(match val t re rh o.op with|some v=>some (⟨re,rh,[(d,v)],[]⟩,⟨(d,v)::e,hp,nx⟩)|none=>none))
      |none=>(match N5 t re rh o.op with|some p=>(match p with|(id,ob)=>some (⟨re,rh,[],[(id,ob)]⟩,⟨e,(id,ob)::hp,nx⟩))|none=>none)))))
theorem Jv(ht:cK K.P t){o:Oper}{D:OD}{nx:Nat}(h:od t K.N ops o S=some (D,S')):yN K nx ops o D/\sY S.env D.re/\kY S.hp D.rh/\S'=S.upd D:=by
 obtain⟨e,hp,nx'⟩:=S;simp only[od] at h;split at h
 ·simp at h
 ·rename_i re hre;have hre':=pd hre;split at h
  ·simp at h
  ·rename_i b hw;split at h
   ·split at h
    ·rename_i d hd;split at h
     ·rename_i hN;simp at h;obtain⟨rfl,rfl⟩:=h;exact⟨fun S2 hn h1 h2=>pw (i4 (da h1) hw) hd hN (aS ⟨Y,Y⟩),hre',trivial,Y⟩
     grind
    grind
   ·split at h
    ·simp at h
    ·rename_i rh hrh;have hrh':=KZ hrh;obtain⟨dst,op,ty,pos,after,g⟩:=o;cases dst with
     |some d=>
      simp only at h;split at h
      ·simp at h
      ·rename_i hN;split at h
       ·rename_i v hv;simp at h;obtain⟨rfl,rfl⟩:=h;exact⟨fun S2 hn h1 h2=>zo ht (da h1) (nK h2) hv (i4 (da h1) hw) hN (aS ⟨Y,Y⟩),hre',hrh',Y⟩
       grind
     |none=>
      simp only at h;split at h
      ·rename_i hv;simp at h;obtain⟨rfl,rfl⟩:=h;exact⟨fun S2 hn h1 h2=>Er ht (da h1) (nK h2) hv (i4 (da h1) hw) (aS ⟨Y,Y⟩),hre',hrh',Y⟩
      grind
inductive Dr(K:cS)(A:aD->Prop)(nx:Nat)(ops:Array Oper):List Oper->St->List OD->St->Prop
 |nil {S:St}:Dr K A nx ops [] S [] S
 |cons {o:Oper} {os:List Oper} {S S' E:St} {D:OD} {ds:List OD} (h1:sY S.env D.re) (h2:kY S.hp D.rh) (h:sZ K A nx ops o D) (hS:S'=S.upd D) (r:Dr K A nx ops os S' ds E):Dr K A nx ops (o::os) S (D::ds) E
theorem Dr.fin{A:aD->Prop}{nx:Nat}{os:List Oper}{E:St}{ds:List OD}(h:Dr K A nx ops os S ds E):np S ds/\(∀(i:Nat) (o:Oper) (D:OD),os[i]? = some o->ds[i]? = some D->sZ K A nx ops o D)/\ed S ds=E:=by
 induction h with
 |nil=>exact⟨trivial,fun i o D h=>by simp at h,rfl⟩
 |cons h1 h2 h hS r ih=>
  subst hS;refine⟨⟨h1,h2,ih.1⟩,fun i o D a b=>?_,ih.2.2⟩
  grind
theorem dr{rid nx:Nat}{l:List Oper}{e:bY}{hp:aD}{ds:List OD}{E:St}(hm:K.P.follows .mixedOrders=true)(h:Dr K (fun _=>True) nx l.toArray l ⟨e,hp,nx⟩ ds E)(hok:qc l ds=true)(k:WG K Q s E):
  WG K Q (.c (.region rid l.toArray true)::s) ⟨e,hp,nx⟩:=by
 obtain⟨h1,h2,h3⟩:=h.fin;exact kN ds hm h1 hok (fun _=>trivial) h2 (by rw[h3];exact k)
def N6(t:TT)(N:Nat)(ops:Array Oper):Nat->List Oper->St->Option (List OD×List Oper×St)
 |0,l,S=>some ([],l,S)
 |n+1,l,S=>(match l with
  |[]=>none
  |o::l=>(match od t N ops o S with
   |some (D,S')=>(match N6 t N ops n l S' with|some (ds,l',S2)=>some (D::ds,l',S2)|none=>none)
   |none=>none))
theorem vs{A:aD->Prop}[ht:TC K t]{nx:Nat}{E:St}{ds':List OD}:∀(n:Nat) {os os':List Oper} {S S':St} {ds:List OD},N6 t K.N ops n os S=some (ds,os',S')->Dr K A nx ops os' S' ds' E->Dr K A nx ops os S (ds++ds') E
 |0,os,os',S,S',ds,h,r=>by simp_all[N6]
 |n+1,os,os',S,S',ds,h,r=>by
  simp only[N6] at h;split at h
  ·simp at h
  ·split at h
   ·rename_i hod;split at h
    ·rename_i hR;simp at h;obtain⟨rfl,rfl,rfl⟩:=h;obtain⟨a1,a2,a3,a4⟩:=Jv (nx:=nx) ht.h hod;exact .cons a2 a3 (fun S hn _=>a1 S hn) a4 (vs n hR r)
    ·simp at h
   ·simp at h
section
variable{A:aD->Prop}{o:Oper}{os:List Oper}{e re:bY}{hp rh:aD}{nx n' d:Nat}{ds:List OD}{E:St}
theorem vb{c b:Bool}{X:St}[ht:TC K t](hb:c=b)(h:od t K.N ops o ⟨e,hp,nx⟩=some (⟨re,rh,[(d,.con (.bool c))],[]⟩,X))(r:Dr K A n' ops os ⟨(d,.con (.bool b))::e,hp,nx⟩ ds E):
  Dr K A n' ops (o::os) ⟨e,hp,nx⟩ (⟨re,rh,[(d,.con (.bool b))],[]⟩::ds) E:=by
 subst hb;obtain⟨a1,a2,a3,a4⟩:=Jv (nx:=n') ht.h h;exact .cons a2 a3 (fun S hn _=>a1 S hn) Y r
theorem cD{f:Nat}{avs avs0:List V}{res:V}[ht:TC K t](hre:Jt ops o e=some re)(hd:pX K.N ops re o=some d)(hs:Li re o.op=some (f,avs0))(hF:dq t f TF.qFn=some ())(hW:dX K.gl K.P f avs res)
  (hz:jW (rR [] 8) avs avs0=some avs) (r:Dr K A n' ops os ⟨(d,res)::e,hp,nx⟩ ds E):Dr K A n' ops (o::os) ⟨e,hp,nx⟩ (⟨re,[],[(d,res)],[]⟩::ds) E:=
 .cons (pd hre) trivial (fun _ _ _ h1 _=>clA ht.h hd hs hF hW hz (da h1) (aS ⟨rfl,rfl⟩)) rfl r
variable{α:Type}{a:List α}{i:Int}{y:α}{enc:α->List V}{k:Nat}
theorem iD[ht:TC K t](hx:cn a i=some y)(hre:Jt ops o e=some re)(hd:pX K.N ops re o=some d)(hs:Ha t re o.op=some (.lst k (a.map enc),i,k))
  (r:Dr K A n' ops os ⟨(d,.iptr (enc y) 0)::e,hp,nx⟩ ds E):Dr K A n' ops (o::os) ⟨e,hp,nx⟩ (⟨re,[],[(d,.iptr (enc y) 0)],[]⟩::ds) E:=
 .cons (pd hre) trivial (fun _ _ _ h1 _=>MN ht.h hx hd hs (da h1) (aS ⟨rfl,rfl⟩)) rfl r
theorem oD{id len:Nat}[ht:TC K t](hx:cn a i=some y)(hre:Jt ops o e=some re)(hd:pX K.N ops re o=some d)(hs:Ha t re o.op=some (.own id len,i,k))(hl:len=a.length)
  (r:Dr K A n' ops os ⟨(d,.ptr id k i.toNat 0)::e,hp,nx⟩ ds E):Dr K A n' ops (o::os) ⟨e,hp,nx⟩ (⟨re,[],[(d,.ptr id k i.toNat 0)],[]⟩::ds) E:=
 .cons (pd hre) trivial (fun _ _ _ h1 _=>JA ht.h hx hd hs hl (da h1) (aS ⟨rfl,rfl⟩)) rfl r
theorem lD{id ty off T:Nat}{v:V}[ht:TC K t](hx:cn a i=some y)(hre:Jt ops o e=some re)(hd:pX K.N ops re o=some d)(hs:N8 re o.op=some (.ptr id k i.toNat off,T))(ho:pk hp id=some (.arr ty k (a.map enc)))
  (hv:CC t T (enc y) off=some v) (r:Dr K A n' ops os ⟨(d,v)::e,hp,nx⟩ ds E):Dr K A n' ops (o::os) ⟨e,hp,nx⟩ (⟨re,[(id,.arr ty k (a.map enc))],[(d,v)],[]⟩::ds) E:=
 .cons (pd hre) ⟨fI ho,trivial⟩ (fun _ _ _ h1 h2=>MK ht.h hx hd hs h2.1 hv (da h1) (aS ⟨rfl,rfl⟩)) rfl r
theorem nD[ht:TC K t](hre:Jt ops o e=some re)(hd:pX K.N ops re o=some d)(hs:N7 t re o.op=some (.lst k (a.map enc)))
  (r:Dr K A n' ops os ⟨(d,iV a.length)::e,hp,nx⟩ ds E):Dr K A n' ops (o::os) ⟨e,hp,nx⟩ (⟨re,[],[(d,iV a.length)],[]⟩::ds) E:=
 .cons (pd hre) trivial (fun _ _ _ h1 _=>lnA ht.h hd hs (da h1) (aS ⟨rfl,rfl⟩)) rfl r
theorem xD(D:OD){S':St}(hl:sY e D.re/\kY hp D.rh)(h:∀S,S.nx=n'->sY S.env D.re->kY S.hp D.rh->ax K ops [o] (fun e T=>e=.normal/\T=S.upd D) S)
  (hS:frS (St.upd ⟨e,hp,nx⟩ D)=some S') (r:Dr K A n' ops os S' ds E):Dr K A n' ops (o::os) ⟨e,hp,nx⟩ (D::ds) E:=
 .cons hl.1 hl.2 (fun S hn _=>h S hn) (by
  grind [frS,St.upd,jo]) r
end
end
end Go.Pv
