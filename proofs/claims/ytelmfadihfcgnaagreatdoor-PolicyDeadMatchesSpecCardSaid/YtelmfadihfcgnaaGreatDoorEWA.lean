/- Part of the proof: WA. -/
import Derived.Test.YtelmfadihfcgnaaGreatDoorEPvW
set_option linter.unusedSimpArgs false
set_option linter.unusedVariables false
namespace Go.Pv
open Go
def jW(f:V->V->Option V):List V->List V->Option (List V)
 |[],l=>(match l with|[]=>some []|_=>none)
 |a::al,l=>(match l with|b::bs=>(match f a b with|some r=>(match jW f al bs with|some q=>some (r::q)|none=>none)|none=>none)|[]=>none)
def sh(σ:List Nat):Nat->V->V->Option V
 |0,_,_=>none
 |n+1,tv,v=>
  match tv with
  | .any=>some .any
  | .con _=>(match v with | .con x=>some (.con x)|_=>none)
  | .lst k _=>(match v with
   | .lst k' r=>some (.lst k' r)
   | .con x=>(match x with | .slice none 0 0=>some (.lst k [])|_=>none)
   |_=>none)
  | .iptr _ _=>(match v with | .iptr r o=>some (.iptr r o)|_=>none)
  | .imap _=>(match v with | .imap e=>some (.imap e)|_=>none)
  | .ifc _ _=>(match v with | .ifc T d=>some (.ifc T d)|_=>none)
  | .agg ts=>(match v with | .agg vs=>(match jW (sh σ n) ts vs with|some r=>some (.agg r)|none=>none)|_=>none)
  | .tup ts=>(match v with | .tup vs=>(match jW (sh σ n) ts vs with|some r=>some (.tup r)|none=>none)|_=>none)
  | .fn _ a b=>(match v with
   | .fn f a' b'=>(match jW (sh σ n) a a' with|some ra=>(match jW (sh σ n) b b' with|some rb=>some (.fn f ra rb)|none=>none)|none=>none)
   |_=>none)
  | .ptr id _ _ _=>(match v with | .ptr j k i o=>(match lJ σ id with|some j'=>(match Nat.beq j' j with|true=>some (.ptr id k i o)|false=>none)|none=>none)|_=>none)
  | .own id _=>(match v with | .own j m=>(match lJ σ id with|some j'=>(match Nat.beq j' j with|true=>some (.own id m)|false=>none)|none=>none)|_=>none)
  | .map id=>(match v with | .map j=>(match lJ σ id with|some j'=>(match Nat.beq j' j with|true=>some (.map id)|false=>none)|none=>none)|_=>none)
  | .adr id=>(match v with
   | .adr j=>(match lJ σ id with|some j'=>(match Nat.beq j' j with|true=>some (.adr id)|false=>none)|none=>none)
   | .ptr j _ 0 0=>(match lJ σ id with|some j'=>(match Nat.beq j' j with|true=>some (.adr id)|false=>none)|none=>none)
   | .con x=>(match x with | .pointer none=>(match lJ σ id with|some _=>some (.adr id)|none=>none)|_=>none)
   |_=>none)
  | .dsl _ _ _=>(match v with | .dsl e k r=>(match σ with|[]=>none|_::_=>some (.dsl e k r))|_=>none)
  | .dmp _=>(match v with | .dmp e=>(match σ with|[]=>none|_::_=>some (.dmp e))|_=>none)
  | .dpt _ _=>(match v with | .dpt e r=>(match σ with|[]=>none|_::_=>some (.dpt e r))|_=>none)
  | .plc _ _=>(match v with | .plc v0 d=>(match σ with|[]=>none|_::_=>some (.plc v0 d))|_=>none)
def sg(σ:List Nat):Nat->Nat:=fun i=>σ.getD i 0
theorem jZ{σ:List Nat}{i j:Nat}(h:lJ σ i=some j):Nat.blt i σ.length=true/\sg σ i=j:=by
 have h:=eK h;have h2:=(bb9.1 h).1
 simp_all[sg]
theorem jw{Yo:Hy}{f:V->V->Option V}(hf:∀a b r,f a b=some r->ai Yo r b):∀{al bs r:List V},jW f al bs=some r->iJ Yo r bs
 |[],bs,r,h=>by
  simp only[jW] at h;split at h
  ·simp at h;subst h;exact .nil
  grind
 |a::al,bs,r,h=>by
  simp only[jW] at h;split at h
  ·split at h
   ·rename_i q hq;split at h
    ·rename_i p hp;simp at h;subst h;exact .cons (hf _ _ _ hq) (jw hf hp)
    ·simp at h
   ·simp at h
  ·simp at h
theorem ai.tupS{Yo:Hy}{l l':List V}(h:iJ Yo l l')(hi:∀m β m' β' v v' x,Yo m β m' β'->ai Yo v v'->bX m v' x->bw m' β' v x):ai Yo (.tup l) (.tup l'):=by
 intro m β m' β' x hy hx;cases hx with
 |imm hx=>cases hx with
  |tup hl hh=>
   refine .tup (h.len.trans hl) (fun i c v hc hv=>?_);obtain⟨c',hc'⟩:∃c',l'[i]? = some c':=⟨l'[i]'(by grind),by simp⟩;exact hi m β m' β' c c' v hy (h.get i c c' hc hc') (hh i c' v hc' hv)
 |tup hl hh=>
  refine .tup (h.len.trans hl) (fun i c v hc hv=>?_);obtain⟨c',hc'⟩:∃c',l'[i]? = some c':=⟨l'[i]'(by grind),by simp⟩;exact h.get i c c' hc hc' m β m' β' v hy (hh i c' v hc' hv)
theorem ai.fnS{Yo:Hy}{f:Fn}{l l' k k':List V}(h:iJ Yo l l')(h2:iJ Yo k k'):ai Yo (.fn f l k) (.fn f l' k'):=by
 intro m β m' β' x hy hx
 have key:∀{l l':List V},iJ Yo l l'->∀(fs:Array Value),l'.length=fs.size->(∀(i:Nat) (c:V) (v:Value),l'[i]? = some c->fs[i]? = some v->bw m β c v)->
   l.length=fs.size/\∀(i:Nat) (c:V) (v:Value),l[i]? = some c->fs[i]? = some v->bw m' β' c v:=by
  intro l l' h fs hl hh;refine⟨h.len.trans hl,fun i c v hc hv=>?_⟩;obtain⟨c',hc'⟩:∃c',l'[i]? = some c':=⟨l'[i]'(by grind),by simp⟩;exact h.get i c c' hc hc' m β m' β' v hy (hh i c' v hc' hv)
 cases hx with
 |imm hx=>cases hx with
  |fn h3 h4 h5 h6=>
   obtain⟨a1,a2⟩:=key h _ h3 (fun i c v hc hv=>.imm (h5 i c v hc hv));obtain⟨b1,b2⟩:=key h2 _ h4 (fun i c v hc hv=>.imm (h6 i c v hc hv));exact .fn a1 b1 a2 b2
 |fn h3 h4 h5 h6=>
  obtain⟨a1,a2⟩:=key h _ h3 h5;obtain⟨b1,b2⟩:=key h2 _ h4 h6;exact .fn a1 b1 a2 b2
theorem ai.adr{n id j:Nat}{σ:Nat->Nat}(hn:Nat.blt id n=true)(hj:σ id=j):ai (Ren n σ) (.adr id) (.adr j):=fun m β m' β' x hy hx=>by
 have h:=hy.2 id (aw9 hn);rw[hj] at h;cases hx with
 |imm h=>cases h
 |adrNil=>exact .adrNil
 |adr hb=>exact .adr (by grind)
theorem ai.adrPtr{n id j k:Nat}{σ:Nat->Nat}(hn:Nat.blt id n=true)(hj:σ id=j):ai (Ren n σ) (.adr id) (.ptr j k 0 0):=fun m β m' β' x hy hx=>by
 have h:=hy.2 id (aw9 hn);rw[hj] at h;cases hx with
 |imm h=>cases h
 |ptr hb=>have:=bw.adr (m:=m') (β:=β') (id:=id) (by rw[h];exact hb);grind
theorem ai.adrNil{Yo:Hy}{id:Nat}:ai Yo (.adr id) (.con (.pointer none)):=fun m β m' β' x _ hx=>by
 rw[hx.of_con];exact .adrNil
theorem iY{σ:List Nat}:∀(n:Nat) (tv v r:V),sh σ n tv v=some r->ai (Ren σ.length (sg σ)) r v
 |0,_,_,_,h=>by simp[sh] at h
 |n+1,tv,v,r,h=>by
  have im:∀{v:V},ar v->ai (Ren σ.length (sg σ)) v v:=fun h=>ai.imm h;simp only[sh] at h;split at h
  ·simp at h;subst h;exact ai.any
  ·split at h
   ·simp at h;subst h;exact im (ar.con _)
   ·simp at h
  ·split at h
   ·simp at h;subst h;exact im (ar.lst _ _)
   ·split at h
    ·simp at h;subst h;exact ai.nil _
    ·simp at h
   ·simp at h
  ·split at h
   ·simp at h;subst h;exact im (ar.iptr _ _)
   ·simp at h
  ·split at h
   ·simp at h;subst h;exact im (ar.imap _)
   ·simp at h
  ·split at h
   ·simp at h;subst h;exact im (ar.ifc _ _)
   ·simp at h
  ·split at h
   ·split at h
    ·rename_i q hq;simp at h;subst h;exact ai.agg (jw (iY n) hq)
    ·simp at h
   ·simp at h
  ·split at h
   ·split at h
    ·rename_i q hq;simp at h;subst h;exact ai.tupS (jw (iY n) hq) (fun m β m' β' v v' x hy hs hv=>hs m β m' β' x hy (.imm hv))
    ·simp at h
   ·simp at h
  ·split at h
   ·split at h
    ·rename_i q hq;split at h
     ·rename_i p hp;simp at h;subst h;exact ai.fnS (jw (iY n) hq) (jw (iY n) hp)
     ·simp at h
    ·simp at h
   ·simp at h
  ·split at h
   ·split at h
    ·rename_i j' hj;split at h
     ·rename_i hb;simp at h;subst h;obtain⟨h1,h2⟩:=jZ hj;exact ai.ptr h1 (h2.trans (cg9 hb))
     ·simp at h
    ·simp at h
   ·simp at h
  ·split at h
   ·split at h
    ·rename_i j' hj;split at h
     ·rename_i hb;simp at h;subst h;obtain⟨h1,h2⟩:=jZ hj;exact ai.own h1 (h2.trans (cg9 hb))
     ·simp at h
    ·simp at h
   ·simp at h
  ·split at h
   ·split at h
    ·rename_i j' hj;split at h
     ·rename_i hb;simp at h;subst h;obtain⟨h1,h2⟩:=jZ hj;exact ai.map h1 (h2.trans (cg9 hb))
     ·simp at h
    ·simp at h
   ·simp at h
  ·split at h
   ·split at h
    ·rename_i j' hj;split at h
     ·rename_i hb;simp at h;subst h;obtain⟨h1,h2⟩:=jZ hj;exact ai.adr h1 (h2.trans (cg9 hb))
     ·simp at h
    ·simp at h
   ·split at h
    ·rename_i j' hj;split at h
     ·rename_i hb;simp at h;subst h;obtain⟨h1,h2⟩:=jZ hj;exact ai.adrPtr h1 (h2.trans (cg9 hb))
     ·simp at h
    ·simp at h
   ·split at h
    ·split at h
     ·simp at h;subst h;exact ai.adrNil
     ·simp at h
    ·simp at h
   ·simp at h
  ·split at h
   ·split at h
    ·simp at h
    ·simp at h;subst h;exact ai.kp (dC.dsl _ _ _)
   ·simp at h
  ·split at h
   ·split at h
    ·simp at h
    ·simp at h;subst h;exact ai.kp (dC.dmp _)
   ·simp at h
  ·split at h
   ·split at h
    ·simp at h
    ·simp at h;subst h;exact ai.kp (dC.dpt _ _)
   ·simp at h
  ·split at h
   ·split at h
    ·simp at h
    ·simp at h;subst h;exact ai.kp (dC.plc _ _)
   ·simp at h
theorem iU.any{Yo:Hy}{v:V}:iU Yo .any v:=fun _ _ _ _ _ _ _ _ _=>.inl (.imm (.any _))
theorem EB{σ:List Nat}{n:Nat}{tv v r:V}(h:sh σ n tv v=some r)(hd:v.deep=true):r=.any\/r=v/\dC v:=by
 cases n with
 |zero=>simp[sh] at h
 |succ n=>
  cases σ<;>cases v<;>simp[V.deep] at hd<;>cases tv<;>simp[sh] at h<;>subst h<;>first|exact .inl rfl|exact .inr ⟨rfl,dC.dsl _ _ _⟩|exact .inr ⟨rfl,dC.dmp _⟩|exact .inr ⟨rfl,dC.dpt _ _⟩|exact .inr ⟨rfl,dC.plc _ _⟩
theorem xQ{σ:List Nat}{n:Nat}{tv v r:V}(h:sh σ n tv v=some r):iU (Ren σ.length (sg σ)) r v:=by
 cases hd:v.deep with
 |false=>exact .sub (iY n tv v r h) hd
 |true=>
  rcases EB h hd with rfl|⟨rfl,hk⟩
  ·exact iU.any
  ·exact .same kQ.h (ai.kp hk)
theorem pw{Yo:Hy}{f:V->V->Option V}(hf:∀a b r,f a b=some r->iU Yo r b):∀{al bs r:List V},jW f al bs=some r->r.length=bs.length/\∀(j:Nat) c c',r[j]? = some c->bs[j]? = some c'->iU Yo c c'
 |[],bs,r,h=>by
  grind [jW]
 |a::al,bs,r,h=>by
  simp only[jW] at h;split at h
  ·split at h
   ·rename_i q hq;split at h
    ·rename_i p hp;simp at h;subst h;obtain⟨h1,h2⟩:=pw hf hp<;>grind
    grind
   grind
  grind
theorem io{f:V->V->Option V}(hf:∀a b r,f a b=some r->ar r):∀{al bs r:List V},jW f al bs=some r->cC r
 |[],bs,r,h=>by
  simp only[jW] at h;split at h
  ·simp at h;subst h;exact .nil
  grind
 |a::al,bs,r,h=>by
  simp only[jW] at h;split at h
  ·split at h
   ·rename_i q hq;split at h
    ·rename_i p hp;simp at h;subst h;exact .cons (hf _ _ _ hq) (io hf hp)
    ·simp at h
   ·simp at h
  ·simp at h
theorem mK:∀(n:Nat) (tv v r:V),sh [] n tv v=some r->ar r
 |0,_,_,_,h=>by simp[sh] at h
 |n+1,tv,v,r,h=>by
  simp only[sh] at h;split at h
  ·simp at h;subst h;exact ar.any
  ·split at h
   ·simp at h;subst h;exact ar.con _
   ·simp at h
  ·split at h
   ·simp at h;subst h;exact ar.lst _ _
   ·split at h
    ·simp at h;subst h;exact ar.lst _ _
    ·simp at h
   ·simp at h
  ·split at h
   ·simp at h;subst h;exact ar.iptr _ _
   ·simp at h
  ·split at h
   ·simp at h;subst h;exact ar.imap _
   ·simp at h
  ·split at h
   ·simp at h;subst h;exact ar.ifc _ _
   ·simp at h
  ·split at h
   ·split at h
    ·rename_i q hq;simp at h;subst h;exact ar.agg (io (mK n) hq)
    ·simp at h
   ·simp at h
  ·split at h
   ·split at h
    ·rename_i q hq;simp at h;subst h;exact ar.tup (io (mK n) hq)
    ·simp at h
   ·simp at h
  ·split at h
   ·split at h
    ·rename_i q hq;split at h
     ·rename_i p hp;simp at h;subst h;exact ar.fn (io (mK n) hq) (io (mK n) hp)
     ·simp at h
    ·simp at h
   ·simp at h
  all_goals
   split at h
   all_goals first
    |(simp[lJ] at h;done)
    |(simp at h;done)
    |(split at h<;>simp[lJ] at h;done)
theorem Ez{n:Nat}{tv v r:V}(h:sh [] n tv v=some r):CR r v:=fun m β x hx=>
 (mK n tv v r h).2 m β x (iY n tv v r h m β m β x ⟨rfl,fun id hid=>by simp at hid⟩ hx)
theorem BT{n:Nat}:∀{al bs r:List V},jW (sh [] n) al bs=some r->r.length=bs.length/\∀(i:Nat) c c',r[i]? = some c->bs[i]? = some c'->CR c c':=by
 intro al bs r h;have h1:=jw (Yo:=Ren 0 (sg [])) (iY n) h;refine⟨h1.len,fun i c c' hc hc' m β x hx=>?_⟩;exact((io (mK n) h).get hc).2 m β x (h1.get i c c' hc hc' m β m β x ⟨Y,fun id hid=>by simp at hid⟩ hx)
section
variable{K:de}{Q:cp}{S S':St}{s s':List It}{ops:Array Oper}{l:List Oper}{t:TT}
def Mt(σ:List Nat)(e:cn):cn->Option cn
 |[]=>some []
 |(k,tv)::r=>(match pu e k with|some v=>(match sh σ 8 tv v with|some v'=>(match Mt σ e r with|some q=>some ((k,v')::q)|none=>none)|none=>none)|none=>none)
theorem ED{σ:List Nat}{e:cn}:∀{T r:cn},Mt σ e T=some r->bE (Ren σ.length (sg σ)) e r
 |[],r,h=>by simp[Mt] at h;subst h;exact .nil
 |(k,tv)::T,r,h=>by
  simp only[Mt] at h;split at h
  ·rename_i v hv;split at h
   ·rename_i v' hv';split at h
    ·rename_i q hq;simp at h;subst h;exact .cons (by rw[dN hv];exact iY _ _ _ _ hv') (ED hq)
    ·simp at h
   ·simp at h
  ·simp at h
def uE(x:Nat):List Nat->Bool
 |[]=>true
 |y::l=>bif Nat.beq x y then false else uE x l
def nodup:List Nat->Bool
 |[]=>true
 |x::l=>bif uE x l then nodup l else false
theorem xR{x:Nat}:∀{l:List Nat},uE x l=true->x ∉ l
 |[],_=>by simp
 |y::l,h=>by
  simp only[uE] at h;cases hb:Nat.beq x y with
  |true=>rw[hb] at h;simp at h
  |false=>
   rw[hb] at h;simp at h;simp[cj9 hb,xR h]
theorem si:∀{l:List Nat},nodup l=true->∀i,i<l.length->∀j,j<l.length->sg l i=sg l j->i=j
 |[],_,i,hi,_,_,_=>by simp at hi
 |x::l,h,i,hi,j,hj,e=>by
  simp only[nodup] at h;cases hb:uE x l with
  |false=>rw[hb] at h;simp at h
  |true=>
   rw[hb] at h;simp at h;have hx:=xR hb
   have mem:∀q,q<l.length->sg l q∈l:=by
    intro q hq;simp[sg,ck9,ax8 hq]
   cases i with
   |zero=>cases j with
    |zero=>rfl
    |succ j=>
     have:x=sg l j:=by simpa[sg] using e
     exact absurd (this ▸ mem j (by simpa using hj)) hx
   |succ i=>cases j with
    |zero=>
     have:sg l i=x:=by simpa[sg] using e
     exact absurd (this ▸ mem i (by simpa using hi)) hx
    |succ j=>rw[si h i (by simpa using hi) j (by simpa using hj) (by simpa[sg] using e)]
class RI (rows:List (List V)):Prop where
 h:∀row,row∈rows->cC row
class EI {α:Type} (enc:α->List V):Prop where
 h:∀x,cC (enc x)
 o:∀x,(enc x).all dt=true
class EM {α:Type} (enc:α->Value×V):Prop where
 h:∀x,ar (enc x).2
class RK (rows:List (List V)):Prop where
 h:∀row,row∈rows->iP row
class EK {α:Type} (enc:α->List V):Prop where
 h:∀x,iP (enc x)
class ML {α:Type} (enc:α->Value×V):Prop where
 h:∀x,dC (enc x).2
instance {α:Type} {enc:α->List V} [i:EI enc] {a:List α}:RI (a.map enc):=⟨ao i.h⟩
instance:RI []:=⟨by simp⟩
theorem HK{rows:List (List V)}(h:∀row,row∈rows->cC row):∀row,row∈rows->∀c,c∈row->c.deep=false:=fun row hr c hc=>(h row hr c hc).1
instance {rows:List (List V)} [i:RI rows]:RK rows:=⟨fun row hr=>(i.h row hr).keep⟩
instance {α:Type} {enc:α->List V} [i:EK enc] {a:List α}:RK (a.map enc):=⟨fun row hr=>by obtain⟨x,_,rfl⟩:=bb8.1 hr;exact i.h x⟩
instance {α:Type} {enc:α->Value×V} [i:EM enc]:ML enc:=⟨fun x=>(i.h x).2⟩
abbrev HS(σ:List Nat):=bL (Ren σ.length (sg σ)) σ.length (sg σ)
theorem hR{σ:List Nat}{hp T:aH}{id e k:Nat}{rows:List (List V)}[i:RK rows](hn:Nat.blt id σ.length=true)(h:ap hp (sg σ id)=.arr e k rows)(r:HS σ hp T):
  HS σ hp ((id,.arr e k rows)::T):=.cons hn (by rw[h];exact ag.rowsK i.h) r
theorem hD{σ:List Nat}{hp T:aH}{id:Nat}(hn:Nat.blt id σ.length=true)(r:HS σ hp T):HS σ hp ((id,.dead)::T):=.cons hn (by simp[ag]) r
theorem hM{α:Type}{enc:α->Value×V}[i:ML enc]{σ:List Nat}{hp T:aH}{id:Nat}{es:List α}(hn:Nat.blt id σ.length=true)(h:ap hp (sg σ id)=.map (es.map enc))(r:HS σ hp T):
  HS σ hp ((id,.map (es.map enc))::T):=.cons hn (by
   rw[h];refine ag.mapsK (fun p hp=>?_);obtain⟨x,_,rfl⟩:=bb8.1 hp;exact i.h x) r
theorem hI{σ:List Nat}{hp T:aH}{id:Nat}{c l:List (Value×V)}(hn:Nat.blt id σ.length=true)(h:ap hp (sg σ id)=.iter c l)(r:HS σ hp T):HS σ hp ((id,.iter [] l)::T):=
 .cons hn (by rw[h];exact⟨by simp,rfl,kQ.h⟩) r
theorem hB{σ:List Nat}{hp T:aH}{id e k:Nat}{row row':List V}(hn:Nat.blt id σ.length=true)(h:ap hp (sg σ id)=.arr e k [row'])(hz:jW (sh σ 8) row row'=some row)(r:HS σ hp T):
  HS σ hp ((id,.arr e k [row])::T):=.cons hn (by rw[h];exact ag.boxC (pw (fun _ _ _ h=>xQ h) hz).1 (pw (fun _ _ _ h=>xQ h) hz).2) r
def uz(σ:List Nat):Nat->Bool
 |0=>true
 |q+1=>match lJ σ q with|some j=>(match Nat.beq j q with|true=>uz σ q|false=>false)|none=>false
theorem r8{σ:List Nat}:∀{p:Nat},uz σ p=true->pH σ.length (sg σ) p=true
 |0,_=>rfl
 |q+1,h=>by
  simp only[uz] at h;split at h
  ·rename_i j hj;split at h
   ·rename_i hb;obtain⟨h1,h2⟩:=jZ hj;simp only[pH,h1,h2,hb,r8 h,Bool.and_self]
   ·simp at h
  ·simp at h
theorem gr{e env:cn}{hp T:aH}{nx n:Nat}(σ:List Nat)(he:Mt σ e env=some env)(hh:HS σ hp T)(hc:(nodup σ&&(fT n σ&&uz σ K.pins))=true):aU K ⟨e,hp,nx⟩ ⟨env,T,n⟩:=by
 simp only[ap9] at hc;have hl:=ek hc.2.1;subst hl;exact aV σ.length (sg σ) _ _ (si hc.1) (ED he).get hh.get (r8 hc.2.2)
theorem g0{e env:cn}{hp:aH}{nx:Nat}(he:Mt [] e env=some env)(hc:uz [] K.pins=true):aU K ⟨e,hp,nx⟩ ⟨env,[],0⟩:=gr [] he .nil (by simp[nodup,fT,hc])
def O0(t:TT)(e:cn)(hp:aH):ResultVar->Option V
 | .tmp x=>pu e x
 | .cell x T=>(match pu e x with
  |some (.ptr id k i o)=>(match pL hp id with
   |some (.arr _ k2 rows)=>(match Nat.beq k k2 with|true=>(match lJ rows i with|some row=>Cl t T row o|none=>none)|false=>none)
   |_=>none)
  |_=>none)
theorem KC(ht:cQ K.P t){rv:ResultVar}{v d:V}(h:O0 t S.env S.hp rv=some v)(hd:sh [] 8 d v=some d):ez K.P S rv d:=by
 have hi:=Ez hd;cases rv with
 |tmp x=>exact .tmp (dN h) hi
 |cell x T=>
  simp only[O0] at h;split at h
  ·rename_i hx;split at h
   ·rename_i ho;split at h
    ·rename_i hk;have hk:=cg9 hk;subst hk;split at h
     ·rename_i row hr;cases hn:dw t T TF.qA with
      |some n=>
       obtain⟨cs,rfl,hc,hdd⟩:=rm hn h;exact .agg (Iq ht hn) (dN hx) (fI ho) (eK hr) (lU hc).1 (lU hc).2 hdd hi
      |none=>
       obtain⟨hq,hc,hdd⟩:=oO hn h;exact .cell (Ip ht hq) (dN hx) (fI ho) (eK hr) (eK hc) hdd hi
     grind
    grind
   grind
  grind
def C7(t:TT)(S:St)(rv:ResultVar)(d:V):Option V:=match O0 t S.env S.hp rv with|some v=>sh [] 8 d v|none=>none
theorem jg(ht:cQ K.P t){rv:ResultVar}{d:V}(h:C7 t S rv d=some d):ez K.P S rv d:=by
 grind [C7,KC]
variable{R:Type}{x r:R}
def O1(t:TT)(S:St):List ResultVar->V->Option V
 |[],d=>(match d with | .tup ds=>(match ds with|[]=>some (.tup [])|_=>none)|_=>none)
 |[a],d=>C7 t S a d
 |[a,b],d=>(match d with
  | .tup ds=>(match ds with
   |[x,y]=>(match C7 t S a x with|some x'=>(match C7 t S b y with|some y'=>some (.tup [x',y'])|none=>none)|none=>none)
   |_=>none)
  |_=>none)
 |[a,b,c],d=>(match d with
  | .tup ds=>(match ds with
   |[x,y,z]=>(match C7 t S a x with|some x'=>(match C7 t S b y with|some y'=>(match C7 t S c z with|some z'=>some (.tup [x',y',z'])|none=>none)|none=>none)|none=>none)
   |_=>none)
  |_=>none)
 |[a,b,c,e],d=>(match d with
  | .tup ds=>(match ds with
   |[x,y,z,u]=>(match C7 t S a x with|some x'=>(match C7 t S b y with|some y'=>(match C7 t S c z with|some z'=>(match C7 t S e u with|some u'=>some (.tup [x',y',z',u'])|none=>none)|none=>none)|none=>none)|none=>none)
   |_=>none)
  |_=>none)
 |_,_=>none
theorem KF(ht:cQ K.P t){l:List ResultVar}{d:V}(h:O1 t S l d=some d):wU K.P S l d:=by
 unfold O1 at h;split at h
 ·split at h
  ·split at h
   ·exact .none
   grind
  grind
 ·exact .one (jg ht h)
 ·split at h
  ·split at h
   ·split at h
    ·rename_i h1;split at h
     ·rename_i h2;simp at h;obtain⟨rfl,rfl⟩:=h;exact .two (jg ht h1) (jg ht h2)
     grind
    grind
   grind
  grind
 ·split at h
  ·split at h
   ·split at h
    ·rename_i h1;split at h
     ·rename_i h2;split at h
      ·rename_i h3;simp at h;obtain⟨rfl,rfl,rfl⟩:=h;exact .three (jg ht h1) (jg ht h2) (jg ht h3)
      grind
     grind
    grind
   grind
  grind
 ·split at h
  ·split at h
   ·split at h
    ·rename_i h1;split at h
     ·rename_i h2;split at h
      ·rename_i h3;split at h
       ·rename_i h4;simp at h;obtain⟨rfl,rfl,rfl,rfl⟩:=h;exact .four (jg ht h1) (jg ht h2) (jg ht h3) (jg ht h4)
       grind
      grind
     grind
    grind
   grind
  grind
 grind
def MW(P:Program)(l:List ResultVar)(d:R->V)(r:R):cp:=MX P l (d r)
theorem rt[ht:TC K t]{d:R->V}{l:List ResultVar}(h:some x=some r)(hv:O1 t S l (d x)=some (d x)):WG K (MW K.P l d r) (.c .ret::s) S:=by
 have:=ah8 h;subst this;exact wC (iy ⟨.inl Y,KF ht.h hv⟩)
theorem pin{gl:Gl}{P:Program}{f:FuncId}{fn:Func}{c:Code}{N:Nat}{args:List V}{l:List ResultVar}{env:cn}{dr:V}(d:R->V)(r:R)(hd:d r=dr)(hf:P.funcs[f]? = some fn)(hb:fn.body=some c)(hN:fn.ntmps=N)
  (hl:fn.results=l.toArray) (ha:Nat.ble args.length N=true) (henv:Cy (fZ 0 args)=some env)
  (h:∀(w0:World) (m0:bF) (hg:gk gl m0),WG (Pf gl P N w0 m0 hg) (MW P l d r) [.c c] ⟨env,[],0⟩):dG gl P f args dr:=hd ▸ zB hf hb hN hl ha env (jl henv) h
theorem ck{p:Prop}[Decidable p]{A:Option R}{G:Prop}(h:(if p then A else none)=some r)(k:p->A=some r->G):G:=let ⟨a,b⟩:=F2 h;k a b
def qh(N:Nat)(ops:Array Oper)(e:cn)(o:Oper):Option Nat:=
 match wt ops e o.guard with
 |some b=>(match b with|true=>(match o.dst with|some d=>(match Nat.blt d N with|true=>some d|false=>none)|none=>none)|false=>none)
 |none=>none
theorem kw{e:cn}(ha:Ag e S){o:Oper}{N d:Nat}(h:qh N ops e o=some d):aN ops S o true/\o.dst=some d/\Nat.blt d N=true:=by
 grind [qh,iW]
def G8(t:TT)(e:cn):Op->Option (V×Int×Nat)
 | .indexAddr T x y=>(match dw t T TF.qSl with
  |some k=>(match el e x with
   |some v=>(match el e y with|some (.con (.int _ n))=>some (v,n,k)|_=>none)
   |none=>none)
  |none=>none)
 |_=>none
section
variable{α:Type}{a:List α}{n:Int}{y:α}{enc:α->List V}{d k:Nat}{o:Oper}{e:cn}{hp:aH}{nx:Nat}
theorem Nb(ht:cQ K.P t)(hx:cq a n=some y)(hd:qh K.N ops e o=some d)(hs:G8 t e o.op=some (.lst k (a.map enc),n,k))
  (ha:Ag e S) (kk:az K ops l Q (S.put d (.iptr (enc y) 0))):az K ops (o::l) Q S:=by
 obtain⟨dst,op,ty,pos,after,g⟩:=o;obtain⟨h1,h2,h3⟩:=kw ha hd;simp only at h2;subst h2;cases op<;>simp only[G8,reduceCtorEq] at hs;split at hs
 ·rename_i hk;split at hs
  ·rename_i hv;split at hs
   ·rename_i hy;simp only[av8,Prod.mk.injEq] at hs;obtain⟨rfl,rfl,rfl⟩:=hs;exact te _ (yF ht hk) h1 (aS ha hv) (aS ha hy) (jQ hx).1 (mR enc hx) h3 kk
   ·simp at hs
  ·simp at hs
 ·simp at hs
theorem i4[ht:TC K t](hx:cq a n=some y)(hd:qh K.N ops e o=some d)(hs:G8 t e o.op=some (.lst k (a.map enc),n,k))
  (kk:WG K Q (.o ops l::s) ⟨(d,.iptr (enc y) 0)::e,hp,nx⟩):WG K Q (.o ops (o::l)::s) ⟨e,hp,nx⟩:=Nb ht.h hx hd hs (wT (S:=⟨e,hp,nx⟩)) kk
theorem gY{f:α->Option R}[ht:TC K t](h:(cq a n).bind f=some r)(hd:qh K.N ops e o=some d)(hs:G8 t e o.op=some (.lst k (a.map enc),n,k))
  (kk:∀y,cq a n=some y->f y=some r->WG K Q (.o ops l::s) ⟨(d,.iptr (enc y) 0)::e,hp,nx⟩):WG K Q (.o ops (o::l)::s) ⟨e,hp,nx⟩:=
 let ⟨y,hy,h⟩:=bind_some h;i4 hy hd hs (kk y hy h)
theorem JD{id len:Nat}(ht:cQ K.P t)(hx:cq a n=some y)(hd:qh K.N ops e o=some d)(hs:G8 t e o.op=some (.own id len,n,k))(hl:len=a.length)
  (ha:Ag e S) (kk:az K ops l Q (S.put d (.ptr id k n.toNat 0))):az K ops (o::l) Q S:=by
 obtain⟨dst,op,ty',pos,after,g⟩:=o;obtain⟨h1,h2,h3⟩:=kw ha hd;simp only at h2;subst h2;cases op<;>simp only[G8,reduceCtorEq] at hs;split at hs
 ·rename_i hk;split at hs
  ·rename_i hv;split at hs
   ·rename_i hy;simp only[av8,Prod.mk.injEq] at hs;obtain⟨rfl,rfl,rfl⟩:=hs;exact l0 (yF ht hk) h1 (aS ha hv) (aS ha hy) (jQ hx).1 (by rw[hl];exact KU hx) h3 kk
   ·simp at hs
  ·simp at hs
 ·simp at hs
theorem Fj{id len:Nat}[ht:TC K t](hx:cq a n=some y)(hd:qh K.N ops e o=some d)(hs:G8 t e o.op=some (.own id len,n,k))(hl:len=a.length)
  (kk:WG K Q (.o ops l::s) ⟨(d,.ptr id k n.toNat 0)::e,hp,nx⟩):WG K Q (.o ops (o::l)::s) ⟨e,hp,nx⟩:=JD ht.h hx hd hs hl (wT (S:=⟨e,hp,nx⟩)) kk
theorem JE{f:α->Option R}{id len:Nat}[ht:TC K t](h:(cq a n).bind f=some r)(hd:qh K.N ops e o=some d)(hs:G8 t e o.op=some (.own id len,n,k))(hl:len=a.length)
  (kk:∀y,cq a n=some y->f y=some r->WG K Q (.o ops l::s) ⟨(d,.ptr id k n.toNat 0)::e,hp,nx⟩):WG K Q (.o ops (o::l)::s) ⟨e,hp,nx⟩:=
 let ⟨y,hy,h⟩:=bind_some h;Fj hy hd hs hl (kk y hy h)
def ixS(t:TT)(e:cn):Op->Option (ByteArray×Int)
 | .index T x y=>(match dw t T TF.qStr with
  |some _=>(match el e x with
   |some (.con v)=>(match v with | .string s=>(match el e y with|some (.con (.int _ n))=>some (s,n)|_=>none)|_=>none)
   |_=>none)
  |none=>none)
 |_=>none
theorem HW{f:UInt8->Option R}{b:B8}[ht:TC K t](h:(cq b n).bind f=some r)(hd:qh K.N ops e o=some d)(hs:ixS t e o.op=some (⟨b.toArray⟩,n))
  (kk:∀y,cq b n=some y->f y=some r->WG K Q (.o ops l::s) ⟨(d,.con (.int .u8 y.toNat))::e,hp,nx⟩):WG K Q (.o ops (o::l)::s) ⟨e,hp,nx⟩:=by
 obtain⟨y,hy,hf⟩:=bind_some h;obtain⟨dst,op,ty',pos,after,g⟩:=o;obtain⟨h1,h2,h3⟩:=kw (wT (S:=⟨e,hp,nx⟩)) hd;simp only at h2;subst h2;cases op<;>simp only[ixS,reduceCtorEq] at hs;split at hs
 ·rename_i hk;split at hs
  ·rename_i hv;split at hs
   ·split at hs
    ·rename_i hyy;simp only[av8,Prod.mk.injEq] at hs;obtain⟨rfl,rfl⟩:=hs;exact qk y (wF ht.h hk) h1 (aS (wT (S:=⟨e,hp,nx⟩)) hv) (aS (wT (S:=⟨e,hp,nx⟩)) hyy) (jQ hy).1 (jQ hy).2 h3 (kk y hy hf)
    ·simp at hs
   ·simp at hs
  ·simp at hs
 ·simp at hs
def OE(t:TT)(e:cn):Op->Option V
 | .call c=>(match c.callee with
  | .builtin b=>(match b,c.args.toList,c.argTypes.toList with
   | .len,[x],[T]=>(match dw t T TF.qSn with|some _=>el e x|none=>none)
   |_,_,_=>none)
  |_=>none)
 |_=>none
theorem lnA(ht:cQ K.P t)(hd:qh K.N ops e o=some d)(hs:OE t e o.op=some (.lst k (a.map enc)))
  (ha:Ag e S) (kk:az K ops l Q (S.put d (iV a.length))):az K ops (o::l) Q S:=by
 obtain⟨dst,op,ty',pos,after,g⟩:=o;obtain⟨h1,h2,h3⟩:=kw ha hd;simp only at h2;subst h2;cases op<;>simp only[OE,reduceCtorEq] at hs;rename_i c;obtain⟨callee,args,at'⟩:=c;simp only at hs;split at hs
 ·split at hs
  ·rename_i h4 h5;have h4:=eZ h4;have h5:=eZ h5;subst h4;subst h5;split at hs
   ·rename_i hT;exact td (n:=a.length) (jS ht hT) h1 (aS ha hs) (congrArg some (bf9 ..)) h3 kk
   ·simp at hs
  ·simp at hs
 ·simp at hs
theorem ln[ht:TC K t](hd:qh K.N ops e o=some d)(hs:OE t e o.op=some (.lst k (a.map enc)))
  (kk:WG K Q (.o ops l::s) ⟨(d,iV a.length)::e,hp,nx⟩):WG K Q (.o ops (o::l)::s) ⟨e,hp,nx⟩:=lnA ht.h hd hs (wT (S:=⟨e,hp,nx⟩)) kk
def OF(e:cn):Op->Option (V×Nat)
 | .load T x=>(match el e x with|some v=>some (v,T)|none=>none)
 |_=>none
theorem M9{id ty off T:Nat}{v:V}(ht:cQ K.P t)(hx:cq a n=some y)(hd:qh K.N ops e o=some d)(hs:OF e o.op=some (.ptr id k n.toNat off,T))(ho:ap S.hp id=.arr ty k (a.map enc))
  (hv:Cl t T (enc y) off=some v) (ha:Ag e S) (kk:az K ops l Q (S.put d v)):az K ops (o::l) Q S:=by
 obtain⟨dst,op,ty',pos,after,g⟩:=o;obtain⟨h1,h2,h3⟩:=kw ha hd;simp only at h2;subst h2;cases op<;>simp only[OF,reduceCtorEq] at hs;split at hs
 ·rename_i hxx;simp only[av8,Prod.mk.injEq] at hs;obtain⟨rfl,rfl⟩:=hs;exact JC ht hv (aS ha hxx) ho (mR enc hx) h1 h3 kk
 ·simp at hs
theorem Fe{id ty off T:Nat}{v:V}[ht:TC K t](hx:cq a n=some y)(hd:qh K.N ops e o=some d)(hs:OF e o.op=some (.ptr id k n.toNat off,T))(ho:ap hp id=.arr ty k (a.map enc))
  (hv:Cl t T (enc y) off=some v) (kk:WG K Q (.o ops l::s) ⟨(d,v)::e,hp,nx⟩):WG K Q (.o ops (o::l)::s) ⟨e,hp,nx⟩:=M9 (S:=⟨e,hp,nx⟩) ht.h hx hd hs ho hv (wT (S:=⟨e,hp,nx⟩)) kk
def stD(t:TT)(e:cn):Op->Option (V×List V×Nat)
 | .store T x y=>(match dw t T TF.qS with
  |some n=>(match el e x with
   |some p=>(match el e y with
    |some v=>(match J2 v with|some cs=>(match fT n cs&&yP cs with|true=>some (p,cs,n)|false=>none)|none=>none)
    |none=>none)
   |none=>none)
  |none=>none)
 |_=>none
theorem stS{id ty off m:Nat}{cs:List V}(z:α)[ht:TC K t](hx:cq a n=some y)(hw:wt ops e o.guard=some true)(hd:o.dst=none)(hs:stD t e o.op=some (.ptr id k n.toNat off,cs,m))(ho:ap hp id=.arr ty k (a.map enc))
  (hz:(enc y).take off++cs++(enc y).drop (off+m)=enc z) (hl:Nat.ble (off+m) (enc y).length=true)
  (kk:WG K Q (.o ops l::s) ⟨e,(id,.arr ty k ((a.set n.toNat z).map enc))::hp,nx⟩):WG K Q (.o ops (o::l)::s) ⟨e,hp,nx⟩:=by
 obtain⟨dst,op,ty',pos,after,g⟩:=o;have h1:=iW (wT (S:=⟨e,hp,nx⟩)) hw;simp only at hd;subst hd;cases op<;>simp only[stD,reduceCtorEq] at hs;split at hs
 ·rename_i hS;split at hs
  ·rename_i hp';split at hs
   ·rename_i hv;split at hs
    ·rename_i hc;split at hs
     ·rename_i hb;simp only[ap9] at hb;simp only[av8,Prod.mk.injEq] at hs;obtain⟨rfl,rfl,rfl⟩:=hs;have hlen:=ek hb.1;subst hlen;exact f0 _ _ (Lq ht.h hS) h1 (aS (wT (S:=⟨e,hp,nx⟩)) hp') (aS (wT (S:=⟨e,hp,nx⟩)) hv) (rH hc) (mY hb.2) ho (mR enc hx) hl (by rw[hz];exact map_set enc a _ z) kk
     ·simp at hs
    ·simp at hs
   ·simp at hs
  ·simp at hs
 ·simp at hs
end
theorem CH{o:Oper}{f:FuncId}{fx:Operand}{first captured:List V}{args:Array Operand}{at':Array TypeId}{avs avs0:List V}(hf:cI K.P f=true)(ho:o.op=.call ⟨.value fx,args,at'⟩)
  (hfx:ca K S fx=.fn (.func f) first captured) (ha:first++args.toList.map (ca K S)++captured=avs0)
  (hi:avs.length=avs0.length/\∀(i:Nat) c c',avs[i]? = some c->avs0[i]? = some c'->CR c c'):
  ∀m β w a,bY K m β w a S->∃vs:Array Value,(execOp a.eval o).run K.P w=.ok (.enter f vs) w/\tJ m avs vs:=by
 intro m β w a r;have h:=r.reads fx;rw[hfx] at h
 have key:∃fs cs:Array Value,a.eval fx=.func (.func f) fs cs/\first.length=fs.size/\captured.length=cs.size/\(∀(i:Nat) c v,first[i]? = some c->fs[i]? = some v->bw m β c v)/\
   ∀(i:Nat) c v,captured[i]? = some c->cs[i]? = some v->bw m β c v:=by
  generalize a.eval fx=v at h;cases h with
  |imm h=>cases h with|fn h1 h2 h3 h4=>exact⟨_,_,rfl,h1,h2,fun i c v a b=>.imm (h3 i c v a b),fun i c v a b=>.imm (h4 i c v a b)⟩
  |fn h1 h2 h3 h4=>grind
 obtain⟨fs,cs,e1,e2,e3,e4,e5⟩:=key;refine⟨fs++args.map a.eval++cs,?_,?_⟩
 ·simp_all[execOp,resolve,Deferred.ofValue,invoke,fp]
 ·refine⟨by grind,fun i c v h1 h2=>?_⟩;obtain⟨c',hc'⟩:∃c',avs0[i]? = some c':=⟨avs0[i]'(by grind),by simp⟩;refine hi.2 i c c' h1 hc' m β v ?_
  clear h1
  have h1:=hc';rw[<-ha,bp8,be8,bf9] at h1;rw[bz8,by8,Array.size_map,<-e2] at h2;simp only[bg8] at h1;split at h1
  ·rename_i hlt;rw[if_pos hlt] at h2;rw[bp8] at h1;rw[bz8,<-e2] at h2;split at h1
   ·grind
   ·rename_i hlt';rw[if_neg hlt'] at h2;rw[ay9] at h1;rw[by9] at h2;cases hx:args[i - first.length]? with
    |none=>grind
    |some x=>
     simp[hx] at h1 h2;subst h1;subst h2;exact r.reads x
  grind
def Ll(e:cn):Op->Option (Nat×List V)
 | .call c=>(match c.callee with
  | .value x=>(match el e x with
   |some (.fn g first caps)=>(match g with
    | .func f=>(match H6 e c.args.toList with
     |some vs=>(match Cy (first++vs++caps) with|some r=>some (f,r)|none=>none)
     |none=>none)
    |_=>none)
   |_=>none)
  |_=>none)
 |_=>none
theorem clA{f d:Nat}{avs avs0:List V}{res:V}{o:Oper}{e:cn}(ht:cQ K.P t)(hd:qh K.N ops e o=some d)
  (hs:Ll e o.op=some (f,avs0)) (hF:dw t f TF.qFn=some ()) (hW:dG K.gl K.P f avs res) (hz:jW (sh [] 8) avs avs0=some avs) (ha:Ag e S)
  (kk:az K ops l Q (S.put d res)):az K ops (o::l) Q S:=by
 obtain⟨h1,h2,h3⟩:=kw ha hd;obtain⟨dst,op,ty',pos,after,g⟩:=o;cases op<;>simp only[Ll,reduceCtorEq] at hs;rename_i c;obtain⟨callee,args,at'⟩:=c;simp only at hs;split at hs
 ·rename_i x;split at hs
  ·rename_i first caps hx
   split at hs
   ·split at hs
    ·rename_i vs hv;split at hs
     ·rename_i q hq;simp only[av8,Prod.mk.injEq] at hs;obtain⟨rfl,rfl⟩:=hs;have hq:=jl hq;have hv:=sT (K:=K) ha hv;exact iF h1 h2 h3 (CH (S:=S) (NF ht hF) Y (aS ha hx) (by rw[hv];exact hq) (BT hz)) hW kk
     ·simp at hs
    ·simp at hs
   ·simp at hs
  ·simp at hs
 ·simp at hs
theorem cl{A:Type}{mm:Option A}{fk:A->Option R}{f d:Nat}{avs avs0:List V}{res:A->V}{o:Oper}{e:cn}{hp:aH}{nx:Nat}[ht:TC K t](h:mm.bind fk=some r)(hd:qh K.N ops e o=some d)
  (hs:Ll e o.op=some (f,avs0)) (hF:dw t f TF.qFn=some ()) (hW:∀y,mm=some y->dG K.gl K.P f avs (res y)) (ha:jW (sh [] 8) avs avs0=some avs)
  (kk:∀y,mm=some y->fk y=some r->WG K Q (.o ops l::s) ⟨(d,res y)::e,hp,nx⟩):WG K Q (.o ops (o::l)::s) ⟨e,hp,nx⟩:=by
 obtain⟨y,hy,h⟩:=bind_some h;exact clA ht.h hd hs hF (hW y hy) ha (wT (S:=⟨e,hp,nx⟩)) (kk y hy h)
def NL(t:TT)(e:cn):Op->Option (V×V×Nat×Nat×Nat)
 | .call c=>(match c.callee with
  | .builtin b=>(match b,c.args.toList,c.argTypes.toList with
   | .append,[x,y],[T,T']=>(match dw t T TF.qEl with
    |some (E,k,by')=>(match dw t T' TF.qSn with
     |some _=>(match el e x with|some v=>(match el e y with|some u=>some (v,u,E,k,by')|none=>none)|none=>none)
     |none=>none)
    |none=>none)
   |_,_,_=>none)
  |_=>none)
 |_=>none
theorem Pp{α:Type}{xs ys:List α}{enc:α->List V}{d id n E k bytes:Nat}{sv:V}{o:Oper}{e:cn}{hp:aH}{nx:Nat}[ht:TC K t](hb:(xs++ys).length*bytes<=140737488355328\/((ys.map enc).length=1/\(xs++ys).length*bytes<=211106232532992/\bytes<=1000000))(hd:qh K.N ops e o=some d)
  (hs:NL t e o.op=some (.own id n,sv,E,k,bytes)) (ho:ap hp id=.arr E k (xs.map enc)) (hn:xs.length=n) (hsrc:xm ⟨e,hp,nx⟩ k sv (ys.map enc)) (hp0:(Nat.blt 0 bytes&&Nat.blt 0 k)=true)
  (kk:WG K Q (.o ops l::s) ⟨(d,.own nx (xs++ys).length)::e,(nx,.arr E k ((xs++ys).map enc))::(id,.dead)::hp,nx+1⟩):WG K Q (.o ops (o::l)::s) ⟨e,hp,nx⟩:=by
 obtain⟨h1,h2,h3⟩:=kw (wT (S:=⟨e,hp,nx⟩)) hd;simp only[ap9] at hp0;obtain⟨dst,op,ty',pos,after,g⟩:=o;simp only at h2;subst h2;cases op<;>simp only[NL,reduceCtorEq] at hs;rename_i c;obtain⟨callee,args,at'⟩:=c;simp only at hs;split at hs
 ·split at hs
  ·rename_i h4 h5;have h4:=dz h4;have h5:=dz h5;subst h4;subst h5;split at hs
   ·rename_i hE;split at hs
    ·rename_i hS;split at hs
     ·rename_i hx;split at hs
      ·rename_i hy;simp only[av8,Prod.mk.injEq] at hs;obtain⟨rfl,rfl,rfl,rfl,rfl⟩:=hs;exact pe (S:=⟨e,hp,nx⟩) (ys.map enc) ((xs++ys).map enc) (kX ht.h hE) (jS ht.h hS) hp0.1 hp0.2 h1 (aS (wT (S:=⟨e,hp,nx⟩)) hx) ho (by simp[hn]) (aS (wT (S:=⟨e,hp,nx⟩)) hy) hsrc (c8 enc xs ys) (bf9 ..) hb h3 kk
      ·simp at hs
     ·simp at hs
    ·simp at hs
   ·simp at hs
  ·simp at hs
 ·simp at hs
theorem apX{α:Type}{xs ys:List α}{enc:α->List V}{d id n E k bytes:Nat}{sv:V}{o:Oper}{e:cn}{hp:aH}{nx:Nat}[ht:TC K t](hb:(xs++ys).length*bytes<=140737488355328)(hd:qh K.N ops e o=some d)
  (hs:NL t e o.op=some (.own id n,sv,E,k,bytes)) (ho:ap hp id=.arr E k (xs.map enc)) (hn:xs.length=n) (hsrc:xm ⟨e,hp,nx⟩ k sv (ys.map enc)) (hp0:(Nat.blt 0 bytes&&Nat.blt 0 k)=true)
  (kk:WG K Q (.o ops l::s) ⟨(d,.own nx (xs++ys).length)::e,(nx,.arr E k ((xs++ys).map enc))::(id,.dead)::hp,nx+1⟩):WG K Q (.o ops (o::l)::s) ⟨e,hp,nx⟩:=
 Pp (.inl hb) hd hs ho hn hsrc hp0 kk
theorem ny{α:Type}{A:Option R}{xs ys:List α}{d id n id2 n2 E E2 k bytes:Nat}{rows2:List (List V)}{o:Oper}{e:cn}{hp:aH}{nx:Nat}(enc:α->List V)[i:EI enc][ht:TC K t]
  (h:(if (xs++ys).length*bytes<=140737488355328 then A else none)=some r) (hd:qh K.N ops e o=some d)
  (hs:NL t e o.op=some (.own id n,.own id2 n2,E,k,bytes)) (ho:ap hp id=.arr E k (xs.map enc)) (hn:xs.length=n) (ho2:ap hp id2=.arr E2 k rows2) (hr2:rows2=ys.map enc) (hn2:ys.length=n2) (hp0:(Nat.blt 0 bytes&&Nat.blt 0 k)=true)
  (kk:A=some r->WG K Q (.o ops l::s) ⟨(d,.own nx (xs++ys).length)::e,(nx,.arr E k ((xs++ys).map enc))::(id,.dead)::hp,nx+1⟩):WG K Q (.o ops (o::l)::s) ⟨e,hp,nx⟩:=
 ck h fun hb h=>apX hb hd hs ho hn (.own (by rw[ho2,hr2]) (by simp[hn2]) (HK (ao i.h))) hp0 (kk h)
theorem apL{α:Type}{A:Option R}{xs ys:List α}{d id n E k bytes:Nat}{o:Oper}{e:cn}{hp:aH}{nx:Nat}(enc:α->List V)[i:EI enc][ht:TC K t]
  (h:(if (xs++ys).length*bytes<=140737488355328 then A else none)=some r) (hd:qh K.N ops e o=some d)
  (hs:NL t e o.op=some (.own id n,.lst k (ys.map enc),E,k,bytes)) (ho:ap hp id=.arr E k (xs.map enc)) (hn:xs.length=n) (hp0:(Nat.blt 0 bytes&&Nat.blt 0 k)=true)
  (kk:A=some r->WG K Q (.o ops l::s) ⟨(d,.own nx (xs++ys).length)::e,(nx,.arr E k ((xs++ys).map enc))::(id,.dead)::hp,nx+1⟩):WG K Q (.o ops (o::l)::s) ⟨e,hp,nx⟩:=
 ck h fun hb h=>apX hb hd hs ho hn (.lst (cN i.o)) hp0 (kk h)
theorem jK{κ α:Type}{b:κ->Option R}{k:κ}{x:Code}(h:jn k b=some r)(T:α->St)(G:κ->α->Prop)(h1:∀k,b k=some r->WG K Q (.c x::.j (Jn K T (G k))::s) S)(h2:∀p,G k p->WG K Q s (T p)):
  WG K Q (.c x::s) S:=jC T (G k) (h1 k h) h2
theorem jE{α:Type}{T:α->St}{G:α->Prop}(p:α)(h:G p)(hg:aU K S (T p)):∃p,G p/\aU K S (T p):=⟨p,h,hg⟩
theorem jX{α:Type}{T:α->St}{G:α->Prop}(p:α)(h:G p)(hg:aU K S (T p)):WG K Q (.j (Jn K T G)::s) S:=⟨p,h,hg⟩
theorem wE(h:Q .normal S):WG K Q [] S:=h
theorem wR(h:Q .ret S):WG K Q (.c .ret::s) S:=wC (iy h)
def frS:St->Option St
 |⟨e,hp,nx⟩=>(match Cy e with|some e'=>(match Cy hp with|some hp'=>some ⟨e',hp',nx⟩|none=>none)|none=>none)
theorem bs{A B:Option R}{c:Bool}{G:Prop}(h:(if c=true then A else B)=some r)(kt:c=true->A=some r->G)(kf:c=false->B=some r->G):G:=by
 grind
theorem wl{α:Type}{A:List α}{enc:α->List V}{k:Nat}{e:cn}{hp:aH}{nx:Nat}{x:Code}(n:Nat)(hc:pu e n=some (.lst k (A.map enc)))(h:A.length<=maxLen->WG K Q (.c x::s) ⟨e,hp,nx⟩):WG K Q (.c x::s) ⟨e,hp,nx⟩:=
 Im n (dN hc) h
theorem MM{α:Type}{A:List α}{enc:α->List V}{k ty:Nat}{e:cn}{hp:aH}{nx:Nat}{x:Code}(n:Nat)(hc:ap hp n=.arr ty k (A.map enc))(h:A.length<=maxLen->WG K Q (.c x::s) ⟨e,hp,nx⟩):WG K Q (.c x::s) ⟨e,hp,nx⟩:=
 Gd n hc h
def OA:List Operand->List Nat
 |[]=>[]
 | .tmp t::l=>t::OA l
 |_::l=>OA l
def O3:Op->List Operand
 | .move x=>[x]
 | .assign x=>[x]
 | .load _ x=>[x]
 | .nilCheck x=>[x]
 | .unOp _ _ x=>[x]
 | .convert _ _ x=>[x]
 | .fieldAddr _ x _=>[x]
 | .field _ x _=>[x]
 | .extract x _=>[x]
 | .pick a b c=>[a,b,c]
 | .build _ ps=>ps.toList.map (·.2)
 | .store _ a b=>[a,b]
 | .binOp _ _ a b _=>[a,b]
 | .indexAddr _ a b=>[a,b]
 | .index _ a b=>[a,b]
 | .makeFunc _ _ cs=>cs.toList
 | .call c=>(match c.callee with | .value f=>f::c.args.toList|_=>c.args.toList)
 |_=>[]
def grd(ops:Array Oper)(o:Oper)(l:List Nat):Option (List Nat):=
 match o.guard with
 |none=>some l
 |some p=>(match p with|(j,_)=>(match ops[j]? with|some o'=>(match o'.dst with|some t=>some (t::l)|none=>none)|none=>none))
def Mr(e:cn):List Nat->Option cn
 |[]=>some []
 |t::l=>(match pu e t with|some v=>(match Mr e l with|some r=>some ((t,v)::r)|none=>none)|none=>none)
def Jy(ops:Array Oper)(o:Oper)(e:cn):Option cn:=match grd ops o (OA (O3 o.op)) with|some l=>Mr e l|none=>none
theorem zz{e:cn}:∀{l:List Nat} {re:cn},Mr e l=some re->ti e re
 |[],re,h=>by simp[Mr] at h;subst h;trivial
 |t::l,re,h=>by
  simp only[Mr] at h;split at h
  ·rename_i v hv;split at h
   ·rename_i q hq;simp at h;subst h;exact⟨dN hv,zz hq⟩
   ·simp at h
  ·simp at h
theorem pF{o:Oper}{e re:cn}(h:Jy ops o e=some re):ti e re:=by
 grind [Jy,zz]
theorem di{S:St}:∀{re:cn},ti S.env re->Ag re S
 |[],_,t,v,h=>by simp[pu] at h
 |(k,x)::re,hr,t,v,h=>by
  simp only[pu] at h;cases hb:Nat.beq k t with
  |true=>rw[hb] at h;simp at h;subst h;rw[<-cg9 hb];exact hr.1
  |false=>rw[hb] at h;simp at h;exact di (S:=S) hr.2 t v h
theorem nX{S:St}:∀{rh:aH},lp S.hp rh->G4 rh S
 |[],_,t,v,h=>by simp[pL] at h
 |(k,x)::re,hr,t,v,h=>by
  simp only[pL] at h;cases hb:Nat.beq k t with
  |true=>rw[hb] at h;simp at h;subst h;rw[<-cg9 hb];exact hr.1
  |false=>rw[hb] at h;simp at h;exact nX (S:=S) hr.2 t v h
def OG(e:cn)(hp:aH)(x:Operand):Option aH:=
 match el e x with
 |some v=>(match v with | .ptr id _ _ _=>(match pL hp id with|some ob=>some [(id,ob)]|none=>none)|_=>some [])
 |none=>none
def O9(e:cn)(hp:aH):Op->Option aH
 | .load _ x=>OG e hp x
 | .store _ x _=>OG e hp x
 |_=>some []
theorem KX{e:cn}{hp rh:aH}{x:Operand}(h:OG e hp x=some rh):lp hp rh:=by
 unfold OG at h;split at h
 ·split at h
  ·split at h
   ·rename_i ho;simp at h;subst h;exact⟨fI ho,trivial⟩
   grind
  ·simp at h;subst h;trivial
 grind
theorem KY{e:cn}{hp rh:aH}{op:Op}(h:O9 e hp op=some rh):lp hp rh:=by
 cases op<;>simp only[O9] at h<;>first|exact KX h|(simp at h;subst h;trivial)
def od(t:TT)(N:Nat)(ops:Array Oper)(o:Oper):St->Option (OD×St)
 |⟨e,hp,nx⟩=>
  match Jy ops o e with
  |none=>none
  |some re=>(match wt ops re o.guard with
   |none=>none
   |some b=>(match b with
    |false=>(match o.dst with|some d=>(match Nat.blt d N with|true=>some (⟨re,[],[(d,.con undef)],[]⟩,⟨(d,.con undef)::e,hp,nx⟩)|false=>none)|none=>none)
    |true=>(match O9 re hp o.op with
     |none=>none
     |some rh=>(match o.dst with
      |some d=>(match Nat.blt d N with
       |false=>none
       |true=>(match val t re rh o.op with|some v=>some (⟨re,rh,[(d,v)],[]⟩,⟨(d,v)::e,hp,nx⟩)|none=>none))
      |none=>(match OB t re rh o.op with|some p=>(match p with|(id,ob)=>some (⟨re,rh,[],[(id,ob)]⟩,⟨e,(id,ob)::hp,nx⟩))|none=>none)))))
theorem JA(ht:cQ K.P t){o:Oper}{D:OD}{nx:Nat}(h:od t K.N ops o S=some (D,S')):yS K nx ops o D/\ti S.env D.re/\lp S.hp D.rh/\S'=S.upd D:=by
 obtain⟨e,hp,nx'⟩:=S;simp only[od] at h;split at h
 ·simp at h
 ·rename_i re hre;have hre':=pF hre;split at h
  ·simp at h
  ·rename_i b hw;split at h
   ·split at h
    ·rename_i d hd;split at h
     ·rename_i hN;simp at h;obtain⟨rfl,rfl⟩:=h;exact⟨fun S2 hn h1 h2=>pU (iW (di h1) hw) hd hN (aL ⟨Y,Y⟩),hre',trivial,Y⟩
     grind
    grind
   ·split at h
    ·simp at h
    ·rename_i rh hrh;have hrh':=KY hrh;obtain⟨dst,op,ty,pos,after,g⟩:=o;cases dst with
     |some d=>
      simp only at h;split at h
      ·simp at h
      ·rename_i hN;split at h
       ·rename_i v hv;simp at h;obtain⟨rfl,rfl⟩:=h;exact⟨fun S2 hn h1 h2=>zm ht (di h1) (nX h2) hv (iW (di h1) hw) hN (aL ⟨Y,Y⟩),hre',hrh',Y⟩
       grind
     |none=>
      simp only at h;split at h
      ·rename_i hv;simp at h;obtain⟨rfl,rfl⟩:=h;exact⟨fun S2 hn h1 h2=>Ee ht (di h1) (nX h2) hv (iW (di h1) hw) (aL ⟨Y,Y⟩),hre',hrh',Y⟩
      grind
inductive Dr(K:de)(A:aH->Prop)(nx:Nat)(ops:Array Oper):List Oper->St->List OD->St->Prop
 |nil {S:St}:Dr K A nx ops [] S [] S
 |cons {o:Oper} {os:List Oper} {S S' E:St} {D:OD} {ds:List OD} (h1:ti S.env D.re) (h2:lp S.hp D.rh) (h:wX K A nx ops o D) (hS:S'=S.upd D) (r:Dr K A nx ops os S' ds E):Dr K A nx ops (o::os) S (D::ds) E
theorem Dr.fin{A:aH->Prop}{nx:Nat}{os:List Oper}{E:St}{ds:List OD}(h:Dr K A nx ops os S ds E):pp S ds/\(∀(i:Nat) (o:Oper) (D:OD),os[i]? = some o->ds[i]? = some D->wX K A nx ops o D)/\gI S ds=E:=by
 induction h with
 |nil=>exact⟨trivial,fun i o D h=>by simp at h,rfl⟩
 |cons h1 h2 h hS r ih=>
  subst hS;refine⟨⟨h1,h2,ih.1⟩,fun i o D a b=>?_,ih.2.2⟩
  grind
theorem dr{rid nx:Nat}{l:List Oper}{e:cn}{hp:aH}{ds:List OD}{E:St}(hm:K.P.follows .mixedOrders=true)(h:Dr K (fun _=>True) nx l.toArray l ⟨e,hp,nx⟩ ds E)(hok:qo l ds=true)(k:WG K Q s E):
  WG K Q (.c (.region rid l.toArray true)::s) ⟨e,hp,nx⟩:=by
 obtain⟨h1,h2,h3⟩:=h.fin;exact kW ds hm h1 hok (fun _=>trivial) h2 (by rw[h3];exact k)
def OC(t:TT)(N:Nat)(ops:Array Oper):Nat->List Oper->St->Option (List OD×List Oper×St)
 |0,l,S=>some ([],l,S)
 |n+1,l,S=>(match l with
  |[]=>none
  |o::l=>(match od t N ops o S with
   |some (D,S')=>(match OC t N ops n l S' with|some (ds,l',S2)=>some (D::ds,l',S2)|none=>none)
   |none=>none))
theorem vs{A:aH->Prop}[ht:TC K t]{nx:Nat}{E:St}{ds':List OD}:∀(n:Nat) {os os':List Oper} {S S':St} {ds:List OD},OC t K.N ops n os S=some (ds,os',S')->Dr K A nx ops os' S' ds' E->Dr K A nx ops os S (ds++ds') E
 |0,os,os',S,S',ds,h,r=>by simp_all[OC]
 |n+1,os,os',S,S',ds,h,r=>by
  simp only[OC] at h;split at h
  ·simp at h
  ·split at h
   ·rename_i hod;split at h
    ·rename_i hR;simp at h;obtain⟨rfl,rfl,rfl⟩:=h;obtain⟨a1,a2,a3,a4⟩:=JA (nx:=nx) ht.h hod;exact .cons a2 a3 (fun S hn _=>a1 S hn) a4 (vs n hR r)
    ·simp at h
   ·simp at h
section
variable{A:aH->Prop}{o:Oper}{os:List Oper}{e re:cn}{hp rh:aH}{nx n' d:Nat}{ds:List OD}{E:St}
theorem vb{c b:Bool}{X:St}[ht:TC K t](hb:c=b)(h:od t K.N ops o ⟨e,hp,nx⟩=some (⟨re,rh,[(d,.con (.bool c))],[]⟩,X))(r:Dr K A n' ops os ⟨(d,.con (.bool b))::e,hp,nx⟩ ds E):
  Dr K A n' ops (o::os) ⟨e,hp,nx⟩ (⟨re,rh,[(d,.con (.bool b))],[]⟩::ds) E:=by
 subst hb;obtain⟨a1,a2,a3,a4⟩:=JA (nx:=n') ht.h h;exact .cons a2 a3 (fun S hn _=>a1 S hn) Y r
theorem cD{f:Nat}{avs avs0:List V}{res:V}[ht:TC K t](hre:Jy ops o e=some re)(hd:qh K.N ops re o=some d)(hs:Ll re o.op=some (f,avs0))(hF:dw t f TF.qFn=some ())(hW:dG K.gl K.P f avs res)
  (hz:jW (sh [] 8) avs avs0=some avs) (r:Dr K A n' ops os ⟨(d,res)::e,hp,nx⟩ ds E):Dr K A n' ops (o::os) ⟨e,hp,nx⟩ (⟨re,[],[(d,res)],[]⟩::ds) E:=
 .cons (pF hre) trivial (fun _ _ _ h1 _=>clA ht.h hd hs hF hW hz (di h1) (aL ⟨rfl,rfl⟩)) rfl r
variable{α:Type}{a:List α}{i:Int}{y:α}{enc:α->List V}{k:Nat}
theorem iD[ht:TC K t](hx:cq a i=some y)(hre:Jy ops o e=some re)(hd:qh K.N ops re o=some d)(hs:G8 t re o.op=some (.lst k (a.map enc),i,k))
  (r:Dr K A n' ops os ⟨(d,.iptr (enc y) 0)::e,hp,nx⟩ ds E):Dr K A n' ops (o::os) ⟨e,hp,nx⟩ (⟨re,[],[(d,.iptr (enc y) 0)],[]⟩::ds) E:=
 .cons (pF hre) trivial (fun _ _ _ h1 _=>Nb ht.h hx hd hs (di h1) (aL ⟨rfl,rfl⟩)) rfl r
theorem oD{id len:Nat}[ht:TC K t](hx:cq a i=some y)(hre:Jy ops o e=some re)(hd:qh K.N ops re o=some d)(hs:G8 t re o.op=some (.own id len,i,k))(hl:len=a.length)
  (r:Dr K A n' ops os ⟨(d,.ptr id k i.toNat 0)::e,hp,nx⟩ ds E):Dr K A n' ops (o::os) ⟨e,hp,nx⟩ (⟨re,[],[(d,.ptr id k i.toNat 0)],[]⟩::ds) E:=
 .cons (pF hre) trivial (fun _ _ _ h1 _=>JD ht.h hx hd hs hl (di h1) (aL ⟨rfl,rfl⟩)) rfl r
theorem lD{id ty off T:Nat}{v:V}[ht:TC K t](hx:cq a i=some y)(hre:Jy ops o e=some re)(hd:qh K.N ops re o=some d)(hs:OF re o.op=some (.ptr id k i.toNat off,T))(ho:pL hp id=some (.arr ty k (a.map enc)))
  (hv:Cl t T (enc y) off=some v) (r:Dr K A n' ops os ⟨(d,v)::e,hp,nx⟩ ds E):Dr K A n' ops (o::os) ⟨e,hp,nx⟩ (⟨re,[(id,.arr ty k (a.map enc))],[(d,v)],[]⟩::ds) E:=
 .cons (pF hre) ⟨fI ho,trivial⟩ (fun _ _ _ h1 h2=>M9 ht.h hx hd hs h2.1 hv (di h1) (aL ⟨rfl,rfl⟩)) rfl r
theorem nD[ht:TC K t](hre:Jy ops o e=some re)(hd:qh K.N ops re o=some d)(hs:OE t re o.op=some (.lst k (a.map enc)))
  (r:Dr K A n' ops os ⟨(d,iV a.length)::e,hp,nx⟩ ds E):Dr K A n' ops (o::os) ⟨e,hp,nx⟩ (⟨re,[],[(d,iV a.length)],[]⟩::ds) E:=
 .cons (pF hre) trivial (fun _ _ _ h1 _=>lnA ht.h hd hs (di h1) (aL ⟨rfl,rfl⟩)) rfl r
theorem xD(D:OD){S':St}(hl:ti e D.re/\lp hp D.rh)(h:∀S,S.nx=n'->ti S.env D.re->lp S.hp D.rh->az K ops [o] (fun e T=>e=.normal/\T=S.upd D) S)
  (hS:frS (St.upd ⟨e,hp,nx⟩ D)=some S') (r:Dr K A n' ops os S' ds E):Dr K A n' ops (o::os) ⟨e,hp,nx⟩ (D::ds) E:=
 .cons hl.1 hl.2 (fun S hn _=>h S hn) (by
  grind [frS,St.upd,jl]) r
end
end
end Go.Pv
