/- Part of the proof. -/
import Derived.Test.YtelmfadihfcgnaaGreatDoorHPvW
set_option linter.unusedSimpArgs false
set_option linter.unusedVariables false
namespace Go.Pv
open Go
def ka(f:V->V->Option V):List V->List V->Option (List V)
 |[],l=>(match l with|[]=>some []|_=>none)
 |a::al,l=>(match l with|b::bs=>(match f a b with|some r=>(match ka f al bs with|some q=>some (r::q)|none=>none)|none=>none)|[]=>none)
def sk(σ:List Nat):Nat->V->V->Option V
 |0,_,_=>none
 |n+1,tv,v=>
  match tv with
  | .any=>some .any
  | .con _=>(match v with | .con x=>some (.con x)|_=>none)
  | .lst k _=>(match v with
   | .lst k' r=>some (.lst k' r)
   | .con x=>(match x with | .slice none 0 0=>some (.lst k [])|_=>none)
   |_=>none)
  | .iptr _ _=>(match v with | .iptr r o=>some (.iptr r o)|_=>none)
  | .imap _=>(match v with | .imap e=>some (.imap e)|_=>none)
  | .ifc _ _=>(match v with | .ifc T d=>some (.ifc T d)|_=>none)
  | .agg ts=>(match v with | .agg vs=>(match ka (sk σ n) ts vs with|some r=>some (.agg r)|none=>none)|_=>none)
  | .tup ts=>(match v with | .tup vs=>(match ka (sk σ n) ts vs with|some r=>some (.tup r)|none=>none)|_=>none)
  | .fn _ a b=>(match v with
   | .fn f a' b'=>(match ka (sk σ n) a a' with|some ra=>(match ka (sk σ n) b b' with|some rb=>some (.fn f ra rb)|none=>none)|none=>none)
   |_=>none)
  | .ptr id _ _ _=>(match v with | .ptr j k i o=>(match lH σ id with|some j'=>(match Nat.beq j' j with|true=>some (.ptr id k i o)|false=>none)|none=>none)|_=>none)
  | .own id _=>(match v with | .own j m=>(match lH σ id with|some j'=>(match Nat.beq j' j with|true=>some (.own id m)|false=>none)|none=>none)|_=>none)
  | .map id=>(match v with | .map j=>(match lH σ id with|some j'=>(match Nat.beq j' j with|true=>some (.map id)|false=>none)|none=>none)|_=>none)
  | .adr id=>(match v with
   | .adr j=>(match lH σ id with|some j'=>(match Nat.beq j' j with|true=>some (.adr id)|false=>none)|none=>none)
   | .ptr j _ 0 0=>(match lH σ id with|some j'=>(match Nat.beq j' j with|true=>some (.adr id)|false=>none)|none=>none)
   | .con x=>(match x with | .pointer none=>(match lH σ id with|some _=>some (.adr id)|none=>none)|_=>none)
   |_=>none)
  | .dsl _ _ _=>(match v with | .dsl e k r=>(match σ with|[]=>none|_::_=>some (.dsl e k r))|_=>none)
  | .dmp _=>(match v with | .dmp e=>(match σ with|[]=>none|_::_=>some (.dmp e))|_=>none)
  | .dpt _ _=>(match v with | .dpt e r=>(match σ with|[]=>none|_::_=>some (.dpt e r))|_=>none)
  | .plc _ _=>(match v with | .plc v0 d=>(match σ with|[]=>none|_::_=>some (.plc v0 d))|_=>none)
def sg(σ:List Nat):Nat->Nat:=fun i=>σ.getD i 0
theorem kg{σ:List Nat}{i j:Nat}(h:lH σ i=some j):Nat.blt i σ.length=true/\sg σ i=j:=by
 have h:=eR h;have h2:=(bd9.1 h).1
 simp_all[sg]
theorem jL{Yo:Hy}{f:V->V->Option V}(hf:∀a b r,f a b=some r->ai Yo r b):∀{al bs r:List V},ka f al bs=some r->ia Yo r bs
 |[],bs,r,h=>by
  simp only[ka] at h;split at h
  ·simp at h;subst h;exact .nil
  grind
 |a::al,bs,r,h=>by
  simp only[ka] at h;split at h
  ·split at h
   ·rename_i q hq;split at h
    ·rename_i p hp;simp at h;subst h;exact .cons (hf _ _ _ hq) (jL hf hp)
    ·simp at h
   ·simp at h
  ·simp at h
theorem ai.tupS{Yo:Hy}{l l':List V}(h:ia Yo l l')(hi:∀m β m' β' v v' x,Yo m β m' β'->ai Yo v v'->bN m v' x->br m' β' v x):ai Yo (.tup l) (.tup l'):=by
 intro m β m' β' x hy hx;cases hx with
 |imm hx=>cases hx with
  |tup hl hh=>
   refine .tup (h.len.trans hl) (fun i c v hc hv=>?_);obtain⟨c',hc'⟩:∃c',l'[i]? = some c':=⟨l'[i]'(by grind),by simp⟩;exact hi m β m' β' c c' v hy (h.get i c c' hc hc') (hh i c' v hc' hv)
 |tup hl hh=>
  refine .tup (h.len.trans hl) (fun i c v hc hv=>?_);obtain⟨c',hc'⟩:∃c',l'[i]? = some c':=⟨l'[i]'(by grind),by simp⟩;exact h.get i c c' hc hc' m β m' β' v hy (hh i c' v hc' hv)
theorem ai.fnS{Yo:Hy}{f:Fn}{l l' k k':List V}(h:ia Yo l l')(h2:ia Yo k k'):ai Yo (.fn f l k) (.fn f l' k'):=by
 intro m β m' β' x hy hx
 have key:∀{l l':List V},ia Yo l l'->∀(fs:Array Value),l'.length=fs.size->(∀(i:Nat) (c:V) (v:Value),l'[i]? = some c->fs[i]? = some v->br m β c v)->
   l.length=fs.size/\∀(i:Nat) (c:V) (v:Value),l[i]? = some c->fs[i]? = some v->br m' β' c v:=by
  intro l l' h fs hl hh;refine⟨h.len.trans hl,fun i c v hc hv=>?_⟩;obtain⟨c',hc'⟩:∃c',l'[i]? = some c':=⟨l'[i]'(by grind),by simp⟩;exact h.get i c c' hc hc' m β m' β' v hy (hh i c' v hc' hv)
 cases hx with
 |imm hx=>cases hx with
  |fn h3 h4 h5 h6=>
   obtain⟨a1,a2⟩:=key h _ h3 (fun i c v hc hv=>.imm (h5 i c v hc hv));obtain⟨b1,b2⟩:=key h2 _ h4 (fun i c v hc hv=>.imm (h6 i c v hc hv));exact .fn a1 b1 a2 b2
 |fn h3 h4 h5 h6=>
  obtain⟨a1,a2⟩:=key h _ h3 h5;obtain⟨b1,b2⟩:=key h2 _ h4 h6;exact .fn a1 b1 a2 b2
theorem ai.adr{n id j:Nat}{σ:Nat->Nat}(hn:Nat.blt id n=true)(hj:σ id=j):ai (Ren n σ) (.adr id) (.adr j):=fun m β m' β' x hy hx=>by
 have h:=hy.2 id (ax8 hn);rw[hj] at h;cases hx with
 |imm h=>cases h
 |adrNil=>exact .adrNil
 |adr hb=>exact .adr (by grind)
theorem ai.adrPtr{n id j k:Nat}{σ:Nat->Nat}(hn:Nat.blt id n=true)(hj:σ id=j):ai (Ren n σ) (.adr id) (.ptr j k 0 0):=fun m β m' β' x hy hx=>by
 have h:=hy.2 id (ax8 hn);rw[hj] at h;cases hx with
 |imm h=>cases h
 |ptr hb=>have:=br.adr (m:=m') (β:=β') (id:=id) (by rw[h];exact hb);grind
theorem ai.adrNil{Yo:Hy}{id:Nat}:ai Yo (.adr id) (.con (.pointer none)):=fun m β m' β' x _ hx=>by
 rw[hx.of_con];exact .adrNil
theorem je{σ:List Nat}:∀(n:Nat) (tv v r:V),sk σ n tv v=some r->ai (Ren σ.length (sg σ)) r v
 |0,_,_,_,h=>by simp[sk] at h
 |n+1,tv,v,r,h=>by
  have im:∀{v:V},aw v->ai (Ren σ.length (sg σ)) v v:=fun h=>ai.imm h;simp only[sk] at h;split at h
  ·simp at h;subst h;exact ai.any
  ·split at h
   ·simp at h;subst h;exact im (aw.con _)
   ·simp at h
  ·split at h
   ·simp at h;subst h;exact im (aw.lst _ _)
   ·split at h
    ·simp at h;subst h;exact ai.nil _
    ·simp at h
   ·simp at h
  ·split at h
   ·simp at h;subst h;exact im (aw.iptr _ _)
   ·simp at h
  ·split at h
   ·simp at h;subst h;exact im (aw.imap _)
   ·simp at h
  ·split at h
   ·simp at h;subst h;exact im (aw.ifc _ _)
   ·simp at h
  ·split at h
   ·split at h
    ·rename_i q hq;simp at h;subst h;exact ai.agg (jL (je n) hq)
    ·simp at h
   ·simp at h
  ·split at h
   ·split at h
    ·rename_i q hq;simp at h;subst h;exact ai.tupS (jL (je n) hq) (fun m β m' β' v v' x hy hs hv=>hs m β m' β' x hy (.imm hv))
    ·simp at h
   ·simp at h
  ·split at h
   ·split at h
    ·rename_i q hq;split at h
     ·rename_i p hp;simp at h;subst h;exact ai.fnS (jL (je n) hq) (jL (je n) hp)
     ·simp at h
    ·simp at h
   ·simp at h
  ·split at h
   ·split at h
    ·rename_i j' hj;split at h
     ·rename_i hb;simp at h;subst h;obtain⟨h1,h2⟩:=kg hj;exact ai.ptr h1 (h2.trans (ci9 hb))
     ·simp at h
    ·simp at h
   ·simp at h
  ·split at h
   ·split at h
    ·rename_i j' hj;split at h
     ·rename_i hb;simp at h;subst h;obtain⟨h1,h2⟩:=kg hj;exact ai.own h1 (h2.trans (ci9 hb))
     ·simp at h
    ·simp at h
   ·simp at h
  ·split at h
   ·split at h
    ·rename_i j' hj;split at h
     ·rename_i hb;simp at h;subst h;obtain⟨h1,h2⟩:=kg hj;exact ai.map h1 (h2.trans (ci9 hb))
     ·simp at h
    ·simp at h
   ·simp at h
  ·split at h
   ·split at h
    ·rename_i j' hj;split at h
     ·rename_i hb;simp at h;subst h;obtain⟨h1,h2⟩:=kg hj;exact ai.adr h1 (h2.trans (ci9 hb))
     ·simp at h
    ·simp at h
   ·split at h
    ·rename_i j' hj;split at h
     ·rename_i hb;simp at h;subst h;obtain⟨h1,h2⟩:=kg hj;exact ai.adrPtr h1 (h2.trans (ci9 hb))
     ·simp at h
    ·simp at h
   ·split at h
    ·split at h
     ·simp at h;subst h;exact ai.adrNil
     ·simp at h
    ·simp at h
   ·simp at h
  ·split at h
   ·split at h
    ·simp at h
    ·simp at h;subst h;exact ai.kp (dC.dsl _ _ _)
   ·simp at h
  ·split at h
   ·split at h
    ·simp at h
    ·simp at h;subst h;exact ai.kp (dC.dmp _)
   ·simp at h
  ·split at h
   ·split at h
    ·simp at h
    ·simp at h;subst h;exact ai.kp (dC.dpt _ _)
   ·simp at h
  ·split at h
   ·split at h
    ·simp at h
    ·simp at h;subst h;exact ai.kp (dC.plc _ _)
   ·simp at h
theorem jb.any{Yo:Hy}{v:V}:jb Yo .any v:=fun _ _ _ _ _ _ _ _ _=>.inl (.imm (.any _))
theorem Fk{σ:List Nat}{n:Nat}{tv v r:V}(h:sk σ n tv v=some r)(hd:v.deep=true):r=.any\/r=v/\dC v:=by
 cases n with
 |zero=>simp[sk] at h
 |succ n=>
  cases σ<;>cases v<;>simp[V.deep] at hd<;>cases tv<;>simp[sk] at h<;>subst h<;>first|exact .inl rfl|exact .inr ⟨rfl,dC.dsl _ _ _⟩|exact .inr ⟨rfl,dC.dmp _⟩|exact .inr ⟨rfl,dC.dpt _ _⟩|exact .inr ⟨rfl,dC.plc _ _⟩
theorem yg{σ:List Nat}{n:Nat}{tv v r:V}(h:sk σ n tv v=some r):jb (Ren σ.length (sg σ)) r v:=by
 cases hd:v.deep with
 |false=>exact .sub (je n tv v r h) hd
 |true=>
  rcases Fk h hd with rfl|⟨rfl,hk⟩
  ·exact jb.any
  ·exact .same jI.h (ai.kp hk)
theorem pg{Yo:Hy}{f:V->V->Option V}(hf:∀a b r,f a b=some r->jb Yo r b):∀{al bs r:List V},ka f al bs=some r->r.length=bs.length/\∀(j:Nat) c c',r[j]? = some c->bs[j]? = some c'->jb Yo c c'
 |[],bs,r,h=>by
  grind [ka]
 |a::al,bs,r,h=>by
  simp only[ka] at h;split at h
  ·split at h
   ·rename_i q hq;split at h
    ·rename_i p hp;simp at h;subst h;obtain⟨h1,h2⟩:=pg hf hp<;>grind
    grind
   grind
  grind
theorem iq{f:V->V->Option V}(hf:∀a b r,f a b=some r->aw r):∀{al bs r:List V},ka f al bs=some r->cv r
 |[],bs,r,h=>by
  simp only[ka] at h;split at h
  ·simp at h;subst h;exact .nil
  grind
 |a::al,bs,r,h=>by
  simp only[ka] at h;split at h
  ·split at h
   ·rename_i q hq;split at h
    ·rename_i p hp;simp at h;subst h;exact .cons (hf _ _ _ hq) (iq hf hp)
    ·simp at h
   ·simp at h
  ·simp at h
theorem mF:∀(n:Nat) (tv v r:V),sk [] n tv v=some r->aw r
 |0,_,_,_,h=>by simp[sk] at h
 |n+1,tv,v,r,h=>by
  simp only[sk] at h;split at h
  ·simp at h;subst h;exact aw.any
  ·split at h
   ·simp at h;subst h;exact aw.con _
   ·simp at h
  ·split at h
   ·simp at h;subst h;exact aw.lst _ _
   ·split at h
    ·simp at h;subst h;exact aw.lst _ _
    ·simp at h
   ·simp at h
  ·split at h
   ·simp at h;subst h;exact aw.iptr _ _
   ·simp at h
  ·split at h
   ·simp at h;subst h;exact aw.imap _
   ·simp at h
  ·split at h
   ·simp at h;subst h;exact aw.ifc _ _
   ·simp at h
  ·split at h
   ·split at h
    ·rename_i q hq;simp at h;subst h;exact aw.agg (iq (mF n) hq)
    ·simp at h
   ·simp at h
  ·split at h
   ·split at h
    ·rename_i q hq;simp at h;subst h;exact aw.tup (iq (mF n) hq)
    ·simp at h
   ·simp at h
  ·split at h
   ·split at h
    ·rename_i q hq;split at h
     ·rename_i p hp;simp at h;subst h;exact aw.fn (iq (mF n) hq) (iq (mF n) hp)
     ·simp at h
    ·simp at h
   ·simp at h
  all_goals
   split at h
   all_goals first
    |(simp[lH] at h;done)
    |(simp at h;done)
    |(split at h<;>simp[lH] at h;done)
theorem Fj{n:Nat}{tv v r:V}(h:sk [] n tv v=some r):Dp r v:=fun m β x hx=>
 (mF n tv v r h).2 m β x (je n tv v r h m β m β x ⟨rfl,fun id hid=>by simp at hid⟩ hx)
theorem Cp{n:Nat}:∀{al bs r:List V},ka (sk [] n) al bs=some r->r.length=bs.length/\∀(i:Nat) c c',r[i]? = some c->bs[i]? = some c'->Dp c c':=by
 intro al bs r h;have h1:=jL (Yo:=Ren 0 (sg [])) (je n) h;refine⟨h1.len,fun i c c' hc hc' m β x hx=>?_⟩;exact((iq (mF n) h).get hc).2 m β x (h1.get i c c' hc hc' m β m β x ⟨Y,fun id hid=>by simp at hid⟩ hx)
section
variable{K:cR}{Q:ca}{S S':St}{s s':List It}{ops:Array Oper}{l:List Oper}{t:TT}
def MD(σ:List Nat)(e:cc):cc->Option cc
 |[]=>some []
 |(k,tv)::r=>(match pf e k with|some v=>(match sk σ 8 tv v with|some v'=>(match MD σ e r with|some q=>some ((k,v')::q)|none=>none)|none=>none)|none=>none)
theorem Fl{σ:List Nat}{e:cc}:∀{T r:cc},MD σ e T=some r->bP (Ren σ.length (sg σ)) e r
 |[],r,h=>by simp[MD] at h;subst h;exact .nil
 |(k,tv)::T,r,h=>by
  simp only[MD] at h;split at h
  ·rename_i v hv;split at h
   ·rename_i v' hv';split at h
    ·rename_i q hq;simp at h;subst h;exact .cons (by rw[dN hv];exact je _ _ _ _ hv') (Fl hq)
    ·simp at h
   ·simp at h
  ·simp at h
def uO(x:Nat):List Nat->Bool
 |[]=>true
 |y::l=>bif Nat.beq x y then false else uO x l
def nodup:List Nat->Bool
 |[]=>true
 |x::l=>bif uO x l then nodup l else false
theorem yh{x:Nat}:∀{l:List Nat},uO x l=true->x ∉ l
 |[],_=>by simp
 |y::l,h=>by
  simp only[uO] at h;cases hb:Nat.beq x y with
  |true=>rw[hb] at h;simp at h
  |false=>
   rw[hb] at h;simp at h;simp[cl9 hb,yh h]
theorem sn:∀{l:List Nat},nodup l=true->∀i,i<l.length->∀j,j<l.length->sg l i=sg l j->i=j
 |[],_,i,hi,_,_,_=>by simp at hi
 |x::l,h,i,hi,j,hj,e=>by
  simp only[nodup] at h;cases hb:uO x l with
  |false=>rw[hb] at h;simp at h
  |true=>
   rw[hb] at h;simp at h;have hx:=yh hb
   have mem:∀q,q<l.length->sg l q∈l:=by
    intro q hq;simp[sg,cm9,az9 hq]
   cases i with
   |zero=>cases j with
    |zero=>rfl
    |succ j=>
     have:x=sg l j:=by simpa[sg] using e
     exact absurd (this ▸ mem j (by simpa using hj)) hx
   |succ i=>cases j with
    |zero=>
     have:sg l i=x:=by simpa[sg] using e
     exact absurd (this ▸ mem i (by simpa using hi)) hx
    |succ j=>rw[sn h i (by simpa using hi) j (by simpa using hj) (by simpa[sg] using e)]
class RI (rows:List (List V)):Prop where
 h:∀row,row∈rows->cv row
class EI {α:Type} (enc:α->List V):Prop where
 h:∀x,cv (enc x)
 o:∀x,(enc x).all dF=true
class EM {α:Type} (enc:α->Value×V):Prop where
 h:∀x,aw (enc x).2
class RK (rows:List (List V)):Prop where
 h:∀row,row∈rows->i5 row
class EK {α:Type} (enc:α->List V):Prop where
 h:∀x,i5 (enc x)
class MR {α:Type} (enc:α->Value×V):Prop where
 h:∀x,dC (enc x).2
instance {α:Type} {enc:α->List V} [i:EI enc] {a:List α}:RI (a.map enc):=⟨ao i.h⟩
instance:RI []:=⟨by simp⟩
theorem Ia{rows:List (List V)}(h:∀row,row∈rows->cv row):∀row,row∈rows->∀c,c∈row->c.deep=false:=fun row hr c hc=>(h row hr c hc).1
instance {rows:List (List V)} [i:RI rows]:RK rows:=⟨fun row hr=>(i.h row hr).keep⟩
instance {α:Type} {enc:α->List V} [i:EK enc] {a:List α}:RK (a.map enc):=⟨fun row hr=>by obtain⟨x,_,rfl⟩:=bf9.1 hr;exact i.h x⟩
instance {α:Type} {enc:α->Value×V} [i:EM enc]:MR enc:=⟨fun x=>(i.h x).2⟩
abbrev HS(σ:List Nat):=bJ (Ren σ.length (sg σ)) σ.length (sg σ)
theorem hR{σ:List Nat}{hp T:aC}{id e k:Nat}{rows:List (List V)}[i:RK rows](hn:Nat.blt id σ.length=true)(h:ak hp (sg σ id)=.arr e k rows)(r:HS σ hp T):
  HS σ hp ((id,.arr e k rows)::T):=.cons hn (by rw[h];exact ag.rowsK i.h) r
theorem hD{σ:List Nat}{hp T:aC}{id:Nat}(hn:Nat.blt id σ.length=true)(r:HS σ hp T):HS σ hp ((id,.dead)::T):=.cons hn (by simp[ag]) r
theorem hM{α:Type}{enc:α->Value×V}[i:MR enc]{σ:List Nat}{hp T:aC}{id:Nat}{es:List α}(hn:Nat.blt id σ.length=true)(h:ak hp (sg σ id)=.map (es.map enc))(r:HS σ hp T):
  HS σ hp ((id,.map (es.map enc))::T):=.cons hn (by
   rw[h];refine ag.mapsK (fun p hp=>?_);obtain⟨x,_,rfl⟩:=bf9.1 hp;exact i.h x) r
theorem hI{σ:List Nat}{hp T:aC}{id:Nat}{c l:List (Value×V)}(hn:Nat.blt id σ.length=true)(h:ak hp (sg σ id)=.iter c l)(r:HS σ hp T):HS σ hp ((id,.iter [] l)::T):=
 .cons hn (by rw[h];exact⟨by simp,rfl,jI.h⟩) r
theorem hB{σ:List Nat}{hp T:aC}{id e k:Nat}{row row':List V}(hn:Nat.blt id σ.length=true)(h:ak hp (sg σ id)=.arr e k [row'])(hz:ka (sk σ 8) row row'=some row)(r:HS σ hp T):
  HS σ hp ((id,.arr e k [row])::T):=.cons hn (by rw[h];exact ag.boxC (pg (fun _ _ _ h=>yg h) hz).1 (pg (fun _ _ _ h=>yg h) hz).2) r
def uG(σ:List Nat):Nat->Bool
 |0=>true
 |q+1=>match lH σ q with|some j=>(match Nat.beq j q with|true=>uG σ q|false=>false)|none=>false
theorem sc{σ:List Nat}:∀{p:Nat},uG σ p=true->pp σ.length (sg σ) p=true
 |0,_=>rfl
 |q+1,h=>by
  simp only[uG] at h;split at h
  ·rename_i j hj;split at h
   ·rename_i hb;obtain⟨h1,h2⟩:=kg hj;simp only[pp,h1,h2,hb,sc h,Bool.and_self]
   ·simp at h
  ·simp at h
theorem gr{e env:cc}{hp T:aC}{nx n:Nat}(σ:List Nat)(he:MD σ e env=some env)(hh:HS σ hp T)(hc:(nodup σ&&(fZ n σ&&uG σ K.pins))=true):aY K ⟨e,hp,nx⟩ ⟨env,T,n⟩:=by
 simp only[aq9] at hc;have hl:=ew hc.2.1;subst hl;exact bi σ.length (sg σ) _ _ (sn hc.1) (Fl he).get hh.get (sc hc.2.2)
theorem g0{e env:cc}{hp:aC}{nx:Nat}(he:MD [] e env=some env)(hc:uG [] K.pins=true):aY K ⟨e,hp,nx⟩ ⟨env,[],0⟩:=gr [] he .nil (by simp[nodup,fZ,hc])
def O4(t:TT)(e:cc)(hp:aC):ResultVar->Option V
 | .tmp x=>pf e x
 | .cell x T=>(match pf e x with
  |some (.ptr id k i o)=>(match pz hp id with
   |some (.arr _ k2 rows)=>(match Nat.beq k k2 with|true=>(match lH rows i with|some row=>CU t T row o|none=>none)|false=>none)
   |_=>none)
  |_=>none)
theorem K2(ht:cK K.P t){rv:ResultVar}{v d:V}(h:O4 t S.env S.hp rv=some v)(hd:sk [] 8 d v=some d):eJ K.P S rv d:=by
 have hi:=Fj hd;cases rv with
 |tmp x=>exact .tmp (dN h) hi
 |cell x T=>
  simp only[O4] at h;split at h
  ·rename_i hx;split at h
   ·rename_i ho;split at h
    ·rename_i hk;have hk:=ci9 hk;subst hk;split at h
     ·rename_i row hr;cases hn:du t T TF.qA with
      |some n=>
       obtain⟨cs,rfl,hc,hdd⟩:=rq hn h;exact .agg (IY ht hn) (dN hx) (fJ ho) (eR hr) (lU hc).1 (lU hc).2 hdd hi
      |none=>
       obtain⟨hq,hc,hdd⟩:=oC hn h;exact .cell (IX ht hq) (dN hx) (fJ ho) (eR hr) (eR hc) hdd hi
     grind
    grind
   grind
  grind
def DC(t:TT)(S:St)(rv:ResultVar)(d:V):Option V:=match O4 t S.env S.hp rv with|some v=>sk [] 8 d v|none=>none
theorem js(ht:cK K.P t){rv:ResultVar}{d:V}(h:DC t S rv d=some d):eJ K.P S rv d:=by
 grind [DC,K2]
variable{R:Type}{x r:R}
def O5(t:TT)(S:St):List ResultVar->V->Option V
 |[],d=>(match d with | .tup ds=>(match ds with|[]=>some (.tup [])|_=>none)|_=>none)
 |[a],d=>DC t S a d
 |[a,b],d=>(match d with
  | .tup ds=>(match ds with
   |[x,y]=>(match DC t S a x with|some x'=>(match DC t S b y with|some y'=>some (.tup [x',y'])|none=>none)|none=>none)
   |_=>none)
  |_=>none)
 |[a,b,c],d=>(match d with
  | .tup ds=>(match ds with
   |[x,y,z]=>(match DC t S a x with|some x'=>(match DC t S b y with|some y'=>(match DC t S c z with|some z'=>some (.tup [x',y',z'])|none=>none)|none=>none)|none=>none)
   |_=>none)
  |_=>none)
 |[a,b,c,e],d=>(match d with
  | .tup ds=>(match ds with
   |[x,y,z,u]=>(match DC t S a x with|some x'=>(match DC t S b y with|some y'=>(match DC t S c z with|some z'=>(match DC t S e u with|some u'=>some (.tup [x',y',z',u'])|none=>none)|none=>none)|none=>none)|none=>none)
   |_=>none)
  |_=>none)
 |_,_=>none
theorem K5(ht:cK K.P t){l:List ResultVar}{d:V}(h:O5 t S l d=some d):xg K.P S l d:=by
 unfold O5 at h;split at h
 ·split at h
  ·split at h
   ·exact .none
   grind
  grind
 ·exact .one (js ht h)
 ·split at h
  ·split at h
   ·split at h
    ·rename_i h1;split at h
     ·rename_i h2;simp at h;obtain⟨rfl,rfl⟩:=h;exact .two (js ht h1) (js ht h2)
     grind
    grind
   grind
  grind
 ·split at h
  ·split at h
   ·split at h
    ·rename_i h1;split at h
     ·rename_i h2;split at h
      ·rename_i h3;simp at h;obtain⟨rfl,rfl,rfl⟩:=h;exact .three (js ht h1) (js ht h2) (js ht h3)
      grind
     grind
    grind
   grind
  grind
 ·split at h
  ·split at h
   ·split at h
    ·rename_i h1;split at h
     ·rename_i h2;split at h
      ·rename_i h3;split at h
       ·rename_i h4;simp at h;obtain⟨rfl,rfl,rfl,rfl⟩:=h;exact .four (js ht h1) (js ht h2) (js ht h3) (js ht h4)
       grind
      grind
     grind
    grind
   grind
  grind
 grind
def M2(P:Program)(l:List ResultVar)(d:R->V)(r:R):ca:=M3 P l (d r)
theorem rt[ht:TC K t]{d:R->V}{l:List ResultVar}(h:some x=some r)(hv:O5 t S l (d x)=some (d x)):WG K (M2 K.P l d r) (.c .ret::s) S:=by
 have:=ah8 h;subst this;exact wQ (iI ⟨.inl Y,K5 ht.h hv⟩)
theorem pin{gl:Gl}{P:Program}{f:FuncId}{fn:Func}{c:Code}{N:Nat}{args:List V}{l:List ResultVar}{env:cc}{dr:V}(d:R->V)(r:R)(hd:d r=dr)(hf:P.funcs[f]? = some fn)(hb:fn.body=some c)(hN:fn.ntmps=N)
  (hl:fn.results=l.toArray) (ha:Nat.ble args.length N=true) (henv:C3 (gk 0 args)=some env)
  (h:∀(w0:World) (m0:bB) (hg:fU gl m0),WG (Pm gl P N w0 m0 hg) (M2 P l d r) [.c c] ⟨env,[],0⟩):dY gl P f args dr:=hd ▸ zY hf hb hN hl ha env (jx henv) h
theorem ck{p:Prop}[Decidable p]{A:Option R}{G:Prop}(h:(if p then A else none)=some r)(k:p->A=some r->G):G:=let ⟨a,b⟩:=GG h;k a b
def qk(N:Nat)(ops:Array Oper)(e:cc)(o:Oper):Option Nat:=
 match wt ops e o.guard with
 |some b=>(match b with|true=>(match o.dst with|some d=>(match Nat.blt d N with|true=>some d|false=>none)|none=>none)|false=>none)
 |none=>none
theorem kD{e:cc}(ha:Ag e S){o:Oper}{N d:Nat}(h:qk N ops e o=some d):aN ops S o true/\o.dst=some d/\Nat.blt d N=true:=by
 grind [qk,jc]
def HA(t:TT)(e:cc):Op->Option (V×Int×Nat)
 | .indexAddr T x y=>(match du t T TF.qSl with
  |some k=>(match eA e x with
   |some v=>(match eA e y with|some (.con (.int _ n))=>some (v,n,k)|_=>none)
   |none=>none)
  |none=>none)
 |_=>none
section
variable{α:Type}{a:List α}{n:Int}{y:α}{enc:α->List V}{d k:Nat}{o:Oper}{e:cc}{hp:aC}{nx:Nat}
theorem Nk(ht:cK K.P t)(hx:ct a n=some y)(hd:qk K.N ops e o=some d)(hs:HA t e o.op=some (.lst k (a.map enc),n,k))
  (ha:Ag e S) (kk:ay K ops l Q (S.put d (.iptr (enc y) 0))):ay K ops (o::l) Q S:=by
 obtain⟨dst,op,ty,pos,after,g⟩:=o;obtain⟨h1,h2,h3⟩:=kD ha hd;simp only at h2;subst h2;cases op<;>simp only[HA,reduceCtorEq] at hs;split at hs
 ·rename_i hk;split at hs
  ·rename_i hv;split at hs
   ·rename_i hy;simp only[ax9,Prod.mk.injEq] at hs;obtain⟨rfl,rfl,rfl⟩:=hs;exact iU _ (yW ht hk) h1 (aW ha hv) (aW ha hy) (gG hx).1 (g7 enc hx) h3 kk
   ·simp at hs
  ·simp at hs
 ·simp at hs
theorem i8[ht:TC K t](hx:ct a n=some y)(hd:qk K.N ops e o=some d)(hs:HA t e o.op=some (.lst k (a.map enc),n,k))
  (kk:WG K Q (.o ops l::s) ⟨(d,.iptr (enc y) 0)::e,hp,nx⟩):WG K Q (.o ops (o::l)::s) ⟨e,hp,nx⟩:=Nk ht.h hx hd hs (xd (S:=⟨e,hp,nx⟩)) kk
theorem jg{f:α->Option R}[ht:TC K t](h:(ct a n).bind f=some r)(hd:qk K.N ops e o=some d)(hs:HA t e o.op=some (.lst k (a.map enc),n,k))
  (kk:∀y,ct a n=some y->f y=some r->WG K Q (.o ops l::s) ⟨(d,.iptr (enc y) 0)::e,hp,nx⟩):WG K Q (.o ops (o::l)::s) ⟨e,hp,nx⟩:=
 let ⟨y,hy,h⟩:=bind_some h;i8 hy hd hs (kk y hy h)
theorem JW{id len:Nat}(ht:cK K.P t)(hx:ct a n=some y)(hd:qk K.N ops e o=some d)(hs:HA t e o.op=some (.own id len,n,k))(hl:len=a.length)
  (ha:Ag e S) (kk:ay K ops l Q (S.put d (.ptr id k n.toNat 0))):ay K ops (o::l) Q S:=by
 obtain⟨dst,op,ty',pos,after,g⟩:=o;obtain⟨h1,h2,h3⟩:=kD ha hd;simp only at h2;subst h2;cases op<;>simp only[HA,reduceCtorEq] at hs;split at hs
 ·rename_i hk;split at hs
  ·rename_i hv;split at hs
   ·rename_i hy;simp only[ax9,Prod.mk.injEq] at hs;obtain⟨rfl,rfl,rfl⟩:=hs;exact lZ (yW ht hk) h1 (aW ha hv) (aW ha hy) (gG hx).1 (by rw[hl];exact Li hx) h3 kk
   ·simp at hs
  ·simp at hs
 ·simp at hs
theorem Al{id len:Nat}[ht:TC K t](hx:ct a n=some y)(hd:qk K.N ops e o=some d)(hs:HA t e o.op=some (.own id len,n,k))(hl:len=a.length)
  (kk:WG K Q (.o ops l::s) ⟨(d,.ptr id k n.toNat 0)::e,hp,nx⟩):WG K Q (.o ops (o::l)::s) ⟨e,hp,nx⟩:=JW ht.h hx hd hs hl (xd (S:=⟨e,hp,nx⟩)) kk
theorem JX{f:α->Option R}{id len:Nat}[ht:TC K t](h:(ct a n).bind f=some r)(hd:qk K.N ops e o=some d)(hs:HA t e o.op=some (.own id len,n,k))(hl:len=a.length)
  (kk:∀y,ct a n=some y->f y=some r->WG K Q (.o ops l::s) ⟨(d,.ptr id k n.toNat 0)::e,hp,nx⟩):WG K Q (.o ops (o::l)::s) ⟨e,hp,nx⟩:=
 let ⟨y,hy,h⟩:=bind_some h;Al hy hd hs hl (kk y hy h)
def ixS(t:TT)(e:cc):Op->Option (ByteArray×Int)
 | .index T x y=>(match du t T TF.qStr with
  |some _=>(match eA e x with
   |some (.con v)=>(match v with | .string s=>(match eA e y with|some (.con (.int _ n))=>some (s,n)|_=>none)|_=>none)
   |_=>none)
  |none=>none)
 |_=>none
theorem JV{f:UInt8->Option R}{b:B8}[ht:TC K t](h:(ct b n).bind f=some r)(hd:qk K.N ops e o=some d)(hs:ixS t e o.op=some (⟨b.toArray⟩,n))
  (kk:∀y,ct b n=some y->f y=some r->WG K Q (.o ops l::s) ⟨(d,.con (.int .u8 y.toNat))::e,hp,nx⟩):WG K Q (.o ops (o::l)::s) ⟨e,hp,nx⟩:=by
 obtain⟨y,hy,hf⟩:=bind_some h;obtain⟨dst,op,ty',pos,after,g⟩:=o;obtain⟨h1,h2,h3⟩:=kD (xd (S:=⟨e,hp,nx⟩)) hd;simp only at h2;subst h2;cases op<;>simp only[ixS,reduceCtorEq] at hs;split at hs
 ·rename_i hk;split at hs
  ·rename_i hv;split at hs
   ·split at hs
    ·rename_i hyy;simp only[ax9,Prod.mk.injEq] at hs;obtain⟨rfl,rfl⟩:=hs;exact qn y (wT ht.h hk) h1 (aW (xd (S:=⟨e,hp,nx⟩)) hv) (aW (xd (S:=⟨e,hp,nx⟩)) hyy) (gG hy).1 (gG hy).2 h3 (kk y hy hf)
    ·simp at hs
   ·simp at hs
  ·simp at hs
 ·simp at hs
def OF(t:TT)(e:cc):Op->Option V
 | .call c=>(match c.callee with
  | .builtin b=>(match b,c.args.toList,c.argTypes.toList with
   | .len,[x],[T]=>(match du t T TF.qSn with|some _=>eA e x|none=>none)
   |_,_,_=>none)
  |_=>none)
 |_=>none
theorem lnA(ht:cK K.P t)(hd:qk K.N ops e o=some d)(hs:OF t e o.op=some (.lst k (a.map enc)))
  (ha:Ag e S) (kk:ay K ops l Q (S.put d (iV a.length))):ay K ops (o::l) Q S:=by
 obtain⟨dst,op,ty',pos,after,g⟩:=o;obtain⟨h1,h2,h3⟩:=kD ha hd;simp only at h2;subst h2;cases op<;>simp only[OF,reduceCtorEq] at hs;rename_i c;obtain⟨callee,args,at'⟩:=c;simp only at hs;split at hs
 ·split at hs
  ·rename_i h4 h5;have h4:=fi h4;have h5:=fi h5;subst h4;subst h5;split at hs
   ·rename_i hT;exact tp (n:=a.length) (j8 ht hT) h1 (aW ha hs) (congrArg some (bj9 ..)) h3 kk
   ·simp at hs
  ·simp at hs
 ·simp at hs
theorem ln[ht:TC K t](hd:qk K.N ops e o=some d)(hs:OF t e o.op=some (.lst k (a.map enc)))
  (kk:WG K Q (.o ops l::s) ⟨(d,iV a.length)::e,hp,nx⟩):WG K Q (.o ops (o::l)::s) ⟨e,hp,nx⟩:=lnA ht.h hd hs (xd (S:=⟨e,hp,nx⟩)) kk
def OG(e:cc):Op->Option (V×Nat)
 | .load T x=>(match eA e x with|some v=>some (v,T)|none=>none)
 |_=>none
theorem Ni{id ty off T:Nat}{v:V}(ht:cK K.P t)(hx:ct a n=some y)(hd:qk K.N ops e o=some d)(hs:OG e o.op=some (.ptr id k n.toNat off,T))(ho:ak S.hp id=.arr ty k (a.map enc))
  (hv:CU t T (enc y) off=some v) (ha:Ag e S) (kk:ay K ops l Q (S.put d v)):ay K ops (o::l) Q S:=by
 obtain⟨dst,op,ty',pos,after,g⟩:=o;obtain⟨h1,h2,h3⟩:=kD ha hd;simp only at h2;subst h2;cases op<;>simp only[OG,reduceCtorEq] at hs;split at hs
 ·rename_i hxx;simp only[ax9,Prod.mk.injEq] at hs;obtain⟨rfl,rfl⟩:=hs;exact JU ht hv (aW ha hxx) ho (g7 enc hx) h1 h3 kk
 ·simp at hs
theorem CT{id ty off T:Nat}{v:V}[ht:TC K t](hx:ct a n=some y)(hd:qk K.N ops e o=some d)(hs:OG e o.op=some (.ptr id k n.toNat off,T))(ho:ak hp id=.arr ty k (a.map enc))
  (hv:CU t T (enc y) off=some v) (kk:WG K Q (.o ops l::s) ⟨(d,v)::e,hp,nx⟩):WG K Q (.o ops (o::l)::s) ⟨e,hp,nx⟩:=Ni (S:=⟨e,hp,nx⟩) ht.h hx hd hs ho hv (xd (S:=⟨e,hp,nx⟩)) kk
def stD(t:TT)(e:cc):Op->Option (V×List V×Nat)
 | .store T x y=>(match du t T TF.qS with
  |some n=>(match eA e x with
   |some p=>(match eA e y with
    |some v=>(match Kk v with|some cs=>(match fZ n cs&&zi cs with|true=>some (p,cs,n)|false=>none)|none=>none)
    |none=>none)
   |none=>none)
  |none=>none)
 |_=>none
theorem stS{id ty off m:Nat}{cs:List V}(z:α)[ht:TC K t](hx:ct a n=some y)(hw:wt ops e o.guard=some true)(hd:o.dst=none)(hs:stD t e o.op=some (.ptr id k n.toNat off,cs,m))(ho:ak hp id=.arr ty k (a.map enc))
  (hz:(enc y).take off++cs++(enc y).drop (off+m)=enc z) (hl:Nat.ble (off+m) (enc y).length=true)
  (kk:WG K Q (.o ops l::s) ⟨e,(id,.arr ty k ((a.set n.toNat z).map enc))::hp,nx⟩):WG K Q (.o ops (o::l)::s) ⟨e,hp,nx⟩:=by
 obtain⟨dst,op,ty',pos,after,g⟩:=o;have h1:=jc (xd (S:=⟨e,hp,nx⟩)) hw;simp only at hd;subst hd;cases op<;>simp only[stD,reduceCtorEq] at hs;split at hs
 ·rename_i hS;split at hs
  ·rename_i hp';split at hs
   ·rename_i hv;split at hs
    ·rename_i hc;split at hs
     ·rename_i hb;simp only[aq9] at hb;simp only[ax9,Prod.mk.injEq] at hs;obtain⟨rfl,rfl,rfl⟩:=hs;have hlen:=ew hb.1;subst hlen;exact dB _ _ (LJ ht.h hS) h1 (aW (xd (S:=⟨e,hp,nx⟩)) hp') (aW (xd (S:=⟨e,hp,nx⟩)) hv) (rM hc) (mT hb.2) ho (g7 enc hx) hl (by rw[hz];exact map_set enc a _ z) kk
     ·simp at hs
    ·simp at hs
   ·simp at hs
  ·simp at hs
 ·simp at hs
end
theorem Df{o:Oper}{f:FuncId}{fx:Operand}{first captured:List V}{args:Array Operand}{at':Array TypeId}{avs avs0:List V}(hf:cE K.P f=true)(ho:o.op=.call ⟨.value fx,args,at'⟩)
  (hfx:evl K S fx=.fn (.func f) first captured) (ha:first++args.toList.map (evl K S)++captured=avs0)
  (hi:avs.length=avs0.length/\∀(i:Nat) c c',avs[i]? = some c->avs0[i]? = some c'->Dp c c'):
  ∀m β w a,bX K m β w a S->∃vs:Array Value,(execOp a.eval o).run K.P w=.ok (.enter f vs) w/\nA m avs vs:=by
 intro m β w a r;have h:=r.reads fx;rw[hfx] at h
 have key:∃fs cs:Array Value,a.eval fx=.func (.func f) fs cs/\first.length=fs.size/\captured.length=cs.size/\(∀(i:Nat) c v,first[i]? = some c->fs[i]? = some v->br m β c v)/\
   ∀(i:Nat) c v,captured[i]? = some c->cs[i]? = some v->br m β c v:=by
  generalize a.eval fx=v at h;cases h with
  |imm h=>cases h with|fn h1 h2 h3 h4=>exact⟨_,_,rfl,h1,h2,fun i c v a b=>.imm (h3 i c v a b),fun i c v a b=>.imm (h4 i c v a b)⟩
  |fn h1 h2 h3 h4=>grind
 obtain⟨fs,cs,e1,e2,e3,e4,e5⟩:=key;refine⟨fs++args.map a.eval++cs,?_,?_⟩
 ·simp_all[execOp,resolve,Deferred.ofValue,invoke,fE]
 ·refine⟨by grind,fun i c v h1 h2=>?_⟩;obtain⟨c',hc'⟩:∃c',avs0[i]? = some c':=⟨avs0[i]'(by grind),by simp⟩;refine hi.2 i c c' h1 hc' m β v ?_
  clear h1
  have h1:=hc';rw[<-ha,bu9,bi8,bj9] at h1;rw[cd9,cc9,Array.size_map,<-e2] at h2;simp only[bk8] at h1;split at h1
  ·rename_i hlt;rw[if_pos hlt] at h2;rw[bu9] at h1;rw[cd9,<-e2] at h2;split at h1
   ·grind
   ·rename_i hlt';rw[if_neg hlt'] at h2;rw[az8] at h1;rw[cb8] at h2;cases hx:args[i - first.length]? with
    |none=>grind
    |some x=>
     simp[hx] at h1 h2;subst h1;subst h2;exact r.reads x
  grind
def LF(e:cc):Op->Option (Nat×List V)
 | .call c=>(match c.callee with
  | .value x=>(match eA e x with
   |some (.fn g first caps)=>(match g with
    | .func f=>(match IC e c.args.toList with
     |some vs=>(match C3 (first++vs++caps) with|some r=>some (f,r)|none=>none)
     |none=>none)
    |_=>none)
   |_=>none)
  |_=>none)
 |_=>none
theorem clA{f d:Nat}{avs avs0:List V}{res:V}{o:Oper}{e:cc}(ht:cK K.P t)(hd:qk K.N ops e o=some d)
  (hs:LF e o.op=some (f,avs0)) (hF:du t f TF.qFn=some ()) (hW:dY K.gl K.P f avs res) (hz:ka (sk [] 8) avs avs0=some avs) (ha:Ag e S)
  (kk:ay K ops l Q (S.put d res)):ay K ops (o::l) Q S:=by
 obtain⟨h1,h2,h3⟩:=kD ha hd;obtain⟨dst,op,ty',pos,after,g⟩:=o;cases op<;>simp only[LF,reduceCtorEq] at hs;rename_i c;obtain⟨callee,args,at'⟩:=c;simp only at hs;split at hs
 ·rename_i x;split at hs
  ·rename_i first caps hx
   split at hs
   ·split at hs
    ·rename_i vs hv;split at hs
     ·rename_i q hq;simp only[ax9,Prod.mk.injEq] at hs;obtain⟨rfl,rfl⟩:=hs;have hq:=jx hq;have hv:=sW (K:=K) ha hv;exact iW h1 h2 h3 (Df (S:=S) (NN ht hF) Y (aW ha hx) (by rw[hv];exact hq) (Cp hz)) hW kk
     ·simp at hs
    ·simp at hs
   ·simp at hs
  ·simp at hs
 ·simp at hs
theorem cl{A:Type}{mm:Option A}{fk:A->Option R}{f d:Nat}{avs avs0:List V}{res:A->V}{o:Oper}{e:cc}{hp:aC}{nx:Nat}[ht:TC K t](h:mm.bind fk=some r)(hd:qk K.N ops e o=some d)
  (hs:LF e o.op=some (f,avs0)) (hF:du t f TF.qFn=some ()) (hW:∀y,mm=some y->dY K.gl K.P f avs (res y)) (ha:ka (sk [] 8) avs avs0=some avs)
  (kk:∀y,mm=some y->fk y=some r->WG K Q (.o ops l::s) ⟨(d,res y)::e,hp,nx⟩):WG K Q (.o ops (o::l)::s) ⟨e,hp,nx⟩:=by
 obtain⟨y,hy,h⟩:=bind_some h;exact clA ht.h hd hs hF (hW y hy) ha (xd (S:=⟨e,hp,nx⟩)) (kk y hy h)
def NT(t:TT)(e:cc):Op->Option (V×V×Nat×Nat×Nat)
 | .call c=>(match c.callee with
  | .builtin b=>(match b,c.args.toList,c.argTypes.toList with
   | .append,[x,y],[T,T']=>(match du t T TF.qEl with
    |some (E,k,by')=>(match du t T' TF.qSn with
     |some _=>(match eA e x with|some v=>(match eA e y with|some u=>some (v,u,E,k,by')|none=>none)|none=>none)
     |none=>none)
    |none=>none)
   |_,_,_=>none)
  |_=>none)
 |_=>none
theorem Pw{α:Type}{xs ys:List α}{enc:α->List V}{d id n E k bytes:Nat}{sv:V}{o:Oper}{e:cc}{hp:aC}{nx:Nat}[ht:TC K t](hb:(xs++ys).length*bytes<=140737488355328\/((ys.map enc).length=1/\(xs++ys).length*bytes<=211106232532992/\bytes<=1000000))(hd:qk K.N ops e o=some d)
  (hs:NT t e o.op=some (.own id n,sv,E,k,bytes)) (ho:ak hp id=.arr E k (xs.map enc)) (hn:xs.length=n) (hsrc:xE ⟨e,hp,nx⟩ k sv (ys.map enc)) (hp0:(Nat.blt 0 bytes&&Nat.blt 0 k)=true)
  (kk:WG K Q (.o ops l::s) ⟨(d,.own nx (xs++ys).length)::e,(nx,.arr E k ((xs++ys).map enc))::(id,.dead)::hp,nx+1⟩):WG K Q (.o ops (o::l)::s) ⟨e,hp,nx⟩:=by
 obtain⟨h1,h2,h3⟩:=kD (xd (S:=⟨e,hp,nx⟩)) hd;simp only[aq9] at hp0;obtain⟨dst,op,ty',pos,after,g⟩:=o;simp only at h2;subst h2;cases op<;>simp only[NT,reduceCtorEq] at hs;rename_i c;obtain⟨callee,args,at'⟩:=c;simp only at hs;split at hs
 ·split at hs
  ·rename_i h4 h5;have h4:=dw h4;have h5:=dw h5;subst h4;subst h5;split at hs
   ·rename_i hE;split at hs
    ·rename_i hS;split at hs
     ·rename_i hx;split at hs
      ·rename_i hy;simp only[ax9,Prod.mk.injEq] at hs;obtain⟨rfl,rfl,rfl,rfl,rfl⟩:=hs;exact oW (S:=⟨e,hp,nx⟩) (ys.map enc) ((xs++ys).map enc) (kX ht.h hE) (j8 ht.h hS) hp0.1 hp0.2 h1 (aW (xd (S:=⟨e,hp,nx⟩)) hx) ho (by simp[hn]) (aW (xd (S:=⟨e,hp,nx⟩)) hy) hsrc (dV enc xs ys) (bj9 ..) hb h3 kk
      ·simp at hs
     ·simp at hs
    ·simp at hs
   ·simp at hs
  ·simp at hs
 ·simp at hs
theorem apX{α:Type}{xs ys:List α}{enc:α->List V}{d id n E k bytes:Nat}{sv:V}{o:Oper}{e:cc}{hp:aC}{nx:Nat}[ht:TC K t](hb:(xs++ys).length*bytes<=140737488355328)(hd:qk K.N ops e o=some d)
  (hs:NT t e o.op=some (.own id n,sv,E,k,bytes)) (ho:ak hp id=.arr E k (xs.map enc)) (hn:xs.length=n) (hsrc:xE ⟨e,hp,nx⟩ k sv (ys.map enc)) (hp0:(Nat.blt 0 bytes&&Nat.blt 0 k)=true)
  (kk:WG K Q (.o ops l::s) ⟨(d,.own nx (xs++ys).length)::e,(nx,.arr E k ((xs++ys).map enc))::(id,.dead)::hp,nx+1⟩):WG K Q (.o ops (o::l)::s) ⟨e,hp,nx⟩:=
 Pw (.inl hb) hd hs ho hn hsrc hp0 kk
theorem nL{α:Type}{A:Option R}{xs ys:List α}{d id n id2 n2 E E2 k bytes:Nat}{rows2:List (List V)}{o:Oper}{e:cc}{hp:aC}{nx:Nat}(enc:α->List V)[i:EI enc][ht:TC K t]
  (h:(if (xs++ys).length*bytes<=140737488355328 then A else none)=some r) (hd:qk K.N ops e o=some d)
  (hs:NT t e o.op=some (.own id n,.own id2 n2,E,k,bytes)) (ho:ak hp id=.arr E k (xs.map enc)) (hn:xs.length=n) (ho2:ak hp id2=.arr E2 k rows2) (hr2:rows2=ys.map enc) (hn2:ys.length=n2) (hp0:(Nat.blt 0 bytes&&Nat.blt 0 k)=true)
  (kk:A=some r->WG K Q (.o ops l::s) ⟨(d,.own nx (xs++ys).length)::e,(nx,.arr E k ((xs++ys).map enc))::(id,.dead)::hp,nx+1⟩):WG K Q (.o ops (o::l)::s) ⟨e,hp,nx⟩:=
 ck h fun hb h=>apX hb hd hs ho hn (.own (by rw[ho2,hr2]) (by simp[hn2]) (Ia (ao i.h))) hp0 (kk h)
theorem apL{α:Type}{A:Option R}{xs ys:List α}{d id n E k bytes:Nat}{o:Oper}{e:cc}{hp:aC}{nx:Nat}(enc:α->List V)[i:EI enc][ht:TC K t]
  (h:(if (xs++ys).length*bytes<=140737488355328 then A else none)=some r) (hd:qk K.N ops e o=some d)
  (hs:NT t e o.op=some (.own id n,.lst k (ys.map enc),E,k,bytes)) (ho:ak hp id=.arr E k (xs.map enc)) (hn:xs.length=n) (hp0:(Nat.blt 0 bytes&&Nat.blt 0 k)=true)
  (kk:A=some r->WG K Q (.o ops l::s) ⟨(d,.own nx (xs++ys).length)::e,(nx,.arr E k ((xs++ys).map enc))::(id,.dead)::hp,nx+1⟩):WG K Q (.o ops (o::l)::s) ⟨e,hp,nx⟩:=
 ck h fun hb h=>apX hb hd hs ho hn (.lst (dt i.o)) hp0 (kk h)
theorem jK{κ α:Type}{b:κ->Option R}{k:κ}{x:Code}(h:jn k b=some r)(T:α->St)(G:κ->α->Prop)(h1:∀k,b k=some r->WG K Q (.c x::.j (Jn K T (G k))::s) S)(h2:∀p,G k p->WG K Q s (T p)):
  WG K Q (.c x::s) S:=jC T (G k) (h1 k h) h2
theorem jE{α:Type}{T:α->St}{G:α->Prop}(p:α)(h:G p)(hg:aY K S (T p)):∃p,G p/\aY K S (T p):=⟨p,h,hg⟩
theorem jX{α:Type}{T:α->St}{G:α->Prop}(p:α)(h:G p)(hg:aY K S (T p)):WG K Q (.j (Jn K T G)::s) S:=⟨p,h,hg⟩
theorem wE(h:Q .normal S):WG K Q [] S:=h
theorem wR(h:Q .ret S):WG K Q (.c .ret::s) S:=wQ (iI h)
def frS:St->Option St
 |⟨e,hp,nx⟩=>(match C3 e with|some e'=>(match C3 hp with|some hp'=>some ⟨e',hp',nx⟩|none=>none)|none=>none)
theorem bs{A B:Option R}{c:Bool}{G:Prop}(h:(if c=true then A else B)=some r)(kt:c=true->A=some r->G)(kf:c=false->B=some r->G):G:=by
 grind
theorem wl{α:Type}{A:List α}{enc:α->List V}{k:Nat}{e:cc}{hp:aC}{nx:Nat}{x:Code}(n:Nat)(hc:pf e n=some (.lst k (A.map enc)))(h:A.length<=maxLen->WG K Q (.c x::s) ⟨e,hp,nx⟩):WG K Q (.c x::s) ⟨e,hp,nx⟩:=
 IV n (dN hc) h
theorem My{α:Type}{A:List α}{enc:α->List V}{k ty:Nat}{e:cc}{hp:aC}{nx:Nat}{x:Code}(n:Nat)(hc:ak hp n=.arr ty k (A.map enc))(h:A.length<=maxLen->WG K Q (.c x::s) ⟨e,hp,nx⟩):WG K Q (.c x::s) ⟨e,hp,nx⟩:=
 GP n hc h
def OB:List Operand->List Nat
 |[]=>[]
 | .tmp t::l=>t::OB l
 |_::l=>OB l
def O7:Op->List Operand
 | .move x=>[x]
 | .assign x=>[x]
 | .load _ x=>[x]
 | .nilCheck x=>[x]
 | .unOp _ _ x=>[x]
 | .convert _ _ x=>[x]
 | .fieldAddr _ x _=>[x]
 | .field _ x _=>[x]
 | .extract x _=>[x]
 | .pick a b c=>[a,b,c]
 | .build _ ps=>ps.toList.map (·.2)
 | .store _ a b=>[a,b]
 | .binOp _ _ a b _=>[a,b]
 | .indexAddr _ a b=>[a,b]
 | .index _ a b=>[a,b]
 | .makeFunc _ _ cs=>cs.toList
 | .call c=>(match c.callee with | .value f=>f::c.args.toList|_=>c.args.toList)
 |_=>[]
def grd(ops:Array Oper)(o:Oper)(l:List Nat):Option (List Nat):=
 match o.guard with
 |none=>some l
 |some p=>(match p with|(j,_)=>(match ops[j]? with|some o'=>(match o'.dst with|some t=>some (t::l)|none=>none)|none=>none))
def MC(e:cc):List Nat->Option cc
 |[]=>some []
 |t::l=>(match pf e t with|some v=>(match MC e l with|some r=>some ((t,v)::r)|none=>none)|none=>none)
def JQ(ops:Array Oper)(o:Oper)(e:cc):Option cc:=match grd ops o (OB (O7 o.op)) with|some l=>MC e l|none=>none
theorem zU{e:cc}:∀{l:List Nat} {re:cc},MC e l=some re->tz e re
 |[],re,h=>by simp[MC] at h;subst h;trivial
 |t::l,re,h=>by
  simp only[MC] at h;split at h
  ·rename_i v hv;split at h
   ·rename_i q hq;simp at h;subst h;exact⟨dN hv,zU hq⟩
   ·simp at h
  ·simp at h
theorem po{o:Oper}{e re:cc}(h:JQ ops o e=some re):tz e re:=by
 grind [JQ,zU]
theorem da{S:St}:∀{re:cc},tz S.env re->Ag re S
 |[],_,t,v,h=>by simp[pf] at h
 |(k,x)::re,hr,t,v,h=>by
  simp only[pf] at h;cases hb:Nat.beq k t with
  |true=>rw[hb] at h;simp at h;subst h;rw[<-ci9 hb];exact hr.1
  |false=>rw[hb] at h;simp at h;exact da (S:=S) hr.2 t v h
theorem nS{S:St}:∀{rh:aC},lp S.hp rh->Hu rh S
 |[],_,t,v,h=>by simp[pz] at h
 |(k,x)::re,hr,t,v,h=>by
  simp only[pz] at h;cases hb:Nat.beq k t with
  |true=>rw[hb] at h;simp at h;subst h;rw[<-ci9 hb];exact hr.1
  |false=>rw[hb] at h;simp at h;exact nS (S:=S) hr.2 t v h
def OH(e:cc)(hp:aC)(x:Operand):Option aC:=
 match eA e x with
 |some v=>(match v with | .ptr id _ _ _=>(match pz hp id with|some ob=>some [(id,ob)]|none=>none)|_=>some [])
 |none=>none
def Pe(e:cc)(hp:aC):Op->Option aC
 | .load _ x=>OH e hp x
 | .store _ x _=>OH e hp x
 |_=>some []
theorem Lk{e:cc}{hp rh:aC}{x:Operand}(h:OH e hp x=some rh):lp hp rh:=by
 unfold OH at h;split at h
 ·split at h
  ·split at h
   ·rename_i ho;simp at h;subst h;exact⟨fJ ho,trivial⟩
   grind
  ·simp at h;subst h;trivial
 grind
theorem Ll{e:cc}{hp rh:aC}{op:Op}(h:Pe e hp op=some rh):lp hp rh:=by
 cases op<;>simp only[Pe] at h<;>first|exact Lk h|(simp at h;subst h;trivial)
def od(t:TT)(N:Nat)(ops:Array Oper)(o:Oper):St->Option (OD×St)
 |⟨e,hp,nx⟩=>
  match JQ ops o e with
  |none=>none
  |some re=>(match wt ops re o.guard with
   |none=>none
   |some b=>(match b with
    |false=>(match o.dst with|some d=>(match Nat.blt d N with|true=>some (⟨re,[],[(d,.con undef)],[]⟩,⟨(d,.con undef)::e,hp,nx⟩)|false=>none)|none=>none)
    |true=>(match Pe re hp o.op with
     |none=>none
     |some rh=>(match o.dst with
      |some d=>(match Nat.blt d N with
       |false=>none
       |true=>(match val t re rh o.op with|some v=>some (⟨re,rh,[(d,v)],[]⟩,⟨(d,v)::e,hp,nx⟩)|none=>none))
      |none=>(match OC t re rh o.op with|some p=>(match p with|(id,ob)=>some (⟨re,rh,[],[(id,ob)]⟩,⟨e,(id,ob)::hp,nx⟩))|none=>none)))))
theorem JS(ht:cK K.P t){o:Oper}{D:OD}{nx:Nat}(h:od t K.N ops o S=some (D,S')):zk K nx ops o D/\tz S.env D.re/\lp S.hp D.rh/\S'=S.upd D:=by
 obtain⟨e,hp,nx'⟩:=S;simp only[od] at h;split at h
 ·simp at h
 ·rename_i re hre;have hre':=po hre;split at h
  ·simp at h
  ·rename_i b hw;split at h
   ·split at h
    ·rename_i d hd;split at h
     ·rename_i hN;simp at h;obtain⟨rfl,rfl⟩:=h;exact⟨fun S2 hn h1 h2=>pJ (jc (da h1) hw) hd hN (aM ⟨Y,Y⟩),hre',trivial,Y⟩
     grind
    grind
   ·split at h
    ·simp at h
    ·rename_i rh hrh;have hrh':=Ll hrh;obtain⟨dst,op,ty,pos,after,g⟩:=o;cases dst with
     |some d=>
      simp only at h;split at h
      ·simp at h
      ·rename_i hN;split at h
       ·rename_i v hv;simp at h;obtain⟨rfl,rfl⟩:=h;exact⟨fun S2 hn h1 h2=>zK ht (da h1) (nS h2) hv (jc (da h1) hw) hN (aM ⟨Y,Y⟩),hre',hrh',Y⟩
       grind
     |none=>
      simp only at h;split at h
      ·rename_i hv;simp at h;obtain⟨rfl,rfl⟩:=h;exact⟨fun S2 hn h1 h2=>EN ht (da h1) (nS h2) hv (jc (da h1) hw) (aM ⟨Y,Y⟩),hre',hrh',Y⟩
      grind
inductive Dr(K:cR)(A:aC->Prop)(nx:Nat)(ops:Array Oper):List Oper->St->List OD->St->Prop
 |nil {S:St}:Dr K A nx ops [] S [] S
 |cons {o:Oper} {os:List Oper} {S S' E:St} {D:OD} {ds:List OD} (h1:tz S.env D.re) (h2:lp S.hp D.rh) (h:tA K A nx ops o D) (hS:S'=S.upd D) (r:Dr K A nx ops os S' ds E):Dr K A nx ops (o::os) S (D::ds) E
theorem Dr.fin{A:aC->Prop}{nx:Nat}{os:List Oper}{E:St}{ds:List OD}(h:Dr K A nx ops os S ds E):nz S ds/\(∀(i:Nat) (o:Oper) (D:OD),os[i]? = some o->ds[i]? = some D->tA K A nx ops o D)/\ef S ds=E:=by
 induction h with
 |nil=>exact⟨trivial,fun i o D h=>by simp at h,rfl⟩
 |cons h1 h2 h hS r ih=>
  subst hS;refine⟨⟨h1,h2,ih.1⟩,fun i o D a b=>?_,ih.2.2⟩
  grind
theorem dr{rid nx:Nat}{l:List Oper}{e:cc}{hp:aC}{ds:List OD}{E:St}(hm:K.P.follows .mixedOrders=true)(h:Dr K (fun _=>True) nx l.toArray l ⟨e,hp,nx⟩ ds E)(hok:qr l ds=true)(k:WG K Q s E):
  WG K Q (.c (.region rid l.toArray true)::s) ⟨e,hp,nx⟩:=by
 obtain⟨h1,h2,h3⟩:=h.fin;exact kW ds hm h1 hok (fun _=>trivial) h2 (by rw[h3];exact k)
def OE(t:TT)(N:Nat)(ops:Array Oper):Nat->List Oper->St->Option (List OD×List Oper×St)
 |0,l,S=>some ([],l,S)
 |n+1,l,S=>(match l with
  |[]=>none
  |o::l=>(match od t N ops o S with
   |some (D,S')=>(match OE t N ops n l S' with|some (ds,l',S2)=>some (D::ds,l',S2)|none=>none)
   |none=>none))
theorem vs{A:aC->Prop}[ht:TC K t]{nx:Nat}{E:St}{ds':List OD}:∀(n:Nat) {os os':List Oper} {S S':St} {ds:List OD},OE t K.N ops n os S=some (ds,os',S')->Dr K A nx ops os' S' ds' E->Dr K A nx ops os S (ds++ds') E
 |0,os,os',S,S',ds,h,r=>by simp_all[OE]
 |n+1,os,os',S,S',ds,h,r=>by
  simp only[OE] at h;split at h
  ·simp at h
  ·split at h
   ·rename_i hod;split at h
    ·rename_i hR;simp at h;obtain⟨rfl,rfl,rfl⟩:=h;obtain⟨a1,a2,a3,a4⟩:=JS (nx:=nx) ht.h hod;exact .cons a2 a3 (fun S hn _=>a1 S hn) a4 (vs n hR r)
    ·simp at h
   ·simp at h
section
variable{A:aC->Prop}{o:Oper}{os:List Oper}{e re:cc}{hp rh:aC}{nx n' d:Nat}{ds:List OD}{E:St}
theorem vb{c b:Bool}{X:St}[ht:TC K t](hb:c=b)(h:od t K.N ops o ⟨e,hp,nx⟩=some (⟨re,rh,[(d,.con (.bool c))],[]⟩,X))(r:Dr K A n' ops os ⟨(d,.con (.bool b))::e,hp,nx⟩ ds E):
  Dr K A n' ops (o::os) ⟨e,hp,nx⟩ (⟨re,rh,[(d,.con (.bool b))],[]⟩::ds) E:=by
 subst hb;obtain⟨a1,a2,a3,a4⟩:=JS (nx:=n') ht.h h;exact .cons a2 a3 (fun S hn _=>a1 S hn) Y r
theorem cD{f:Nat}{avs avs0:List V}{res:V}[ht:TC K t](hre:JQ ops o e=some re)(hd:qk K.N ops re o=some d)(hs:LF re o.op=some (f,avs0))(hF:du t f TF.qFn=some ())(hW:dY K.gl K.P f avs res)
  (hz:ka (sk [] 8) avs avs0=some avs) (r:Dr K A n' ops os ⟨(d,res)::e,hp,nx⟩ ds E):Dr K A n' ops (o::os) ⟨e,hp,nx⟩ (⟨re,[],[(d,res)],[]⟩::ds) E:=
 .cons (po hre) trivial (fun _ _ _ h1 _=>clA ht.h hd hs hF hW hz (da h1) (aM ⟨rfl,rfl⟩)) rfl r
variable{α:Type}{a:List α}{i:Int}{y:α}{enc:α->List V}{k:Nat}
theorem iD[ht:TC K t](hx:ct a i=some y)(hre:JQ ops o e=some re)(hd:qk K.N ops re o=some d)(hs:HA t re o.op=some (.lst k (a.map enc),i,k))
  (r:Dr K A n' ops os ⟨(d,.iptr (enc y) 0)::e,hp,nx⟩ ds E):Dr K A n' ops (o::os) ⟨e,hp,nx⟩ (⟨re,[],[(d,.iptr (enc y) 0)],[]⟩::ds) E:=
 .cons (po hre) trivial (fun _ _ _ h1 _=>Nk ht.h hx hd hs (da h1) (aM ⟨rfl,rfl⟩)) rfl r
theorem oD{id len:Nat}[ht:TC K t](hx:ct a i=some y)(hre:JQ ops o e=some re)(hd:qk K.N ops re o=some d)(hs:HA t re o.op=some (.own id len,i,k))(hl:len=a.length)
  (r:Dr K A n' ops os ⟨(d,.ptr id k i.toNat 0)::e,hp,nx⟩ ds E):Dr K A n' ops (o::os) ⟨e,hp,nx⟩ (⟨re,[],[(d,.ptr id k i.toNat 0)],[]⟩::ds) E:=
 .cons (po hre) trivial (fun _ _ _ h1 _=>JW ht.h hx hd hs hl (da h1) (aM ⟨rfl,rfl⟩)) rfl r
theorem lD{id ty off T:Nat}{v:V}[ht:TC K t](hx:ct a i=some y)(hre:JQ ops o e=some re)(hd:qk K.N ops re o=some d)(hs:OG re o.op=some (.ptr id k i.toNat off,T))(ho:pz hp id=some (.arr ty k (a.map enc)))
  (hv:CU t T (enc y) off=some v) (r:Dr K A n' ops os ⟨(d,v)::e,hp,nx⟩ ds E):Dr K A n' ops (o::os) ⟨e,hp,nx⟩ (⟨re,[(id,.arr ty k (a.map enc))],[(d,v)],[]⟩::ds) E:=
 .cons (po hre) ⟨fJ ho,trivial⟩ (fun _ _ _ h1 h2=>Ni ht.h hx hd hs h2.1 hv (da h1) (aM ⟨rfl,rfl⟩)) rfl r
theorem nD[ht:TC K t](hre:JQ ops o e=some re)(hd:qk K.N ops re o=some d)(hs:OF t re o.op=some (.lst k (a.map enc)))
  (r:Dr K A n' ops os ⟨(d,iV a.length)::e,hp,nx⟩ ds E):Dr K A n' ops (o::os) ⟨e,hp,nx⟩ (⟨re,[],[(d,iV a.length)],[]⟩::ds) E:=
 .cons (po hre) trivial (fun _ _ _ h1 _=>lnA ht.h hd hs (da h1) (aM ⟨rfl,rfl⟩)) rfl r
theorem xD(D:OD){S':St}(hl:tz e D.re/\lp hp D.rh)(h:∀S,S.nx=n'->tz S.env D.re->lp S.hp D.rh->ay K ops [o] (fun e T=>e=.normal/\T=S.upd D) S)
  (hS:frS (St.upd ⟨e,hp,nx⟩ D)=some S') (r:Dr K A n' ops os S' ds E):Dr K A n' ops (o::os) ⟨e,hp,nx⟩ (D::ds) E:=
 .cons hl.1 hl.2 (fun S hn _=>h S hn) (by
  grind [frS,St.upd,jx]) r
end
end
end Go.Pv
