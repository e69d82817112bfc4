/- Part of the proof. -/
import Derived.Test.YtelmfadihfcgnaaGreatDoorFPvW
set_option linter.unusedSimpArgs false
set_option linter.unusedVariables false
namespace Go.Pv
open Go
def kY(f:V->V->Option V):List V->List V->Option (List V)
 |[],l=>(match l with|[]=>some []|_=>none)
 |a::al,l=>(match l with|b::bs=>(match f a b with|some r=>(match kY f al bs with|some q=>some (r::q)|none=>none)|none=>none)|[]=>none)
def tR(σ:List Nat):Nat->V->V->Option V
 |0,_,_=>none
 |n+1,tv,v=>
  match tv with
  | .any=>some .any
  | .con _=>(match v with | .con x=>some (.con x)|_=>none)
  | .lst k _=>(match v with
   | .lst k' r=>some (.lst k' r)
   | .con x=>(match x with | .slice none 0 0=>some (.lst k [])|_=>none)
   |_=>none)
  | .iptr _ _=>(match v with | .iptr r o=>some (.iptr r o)|_=>none)
  | .imap _=>(match v with | .imap e=>some (.imap e)|_=>none)
  | .ifc _ _=>(match v with | .ifc T d=>some (.ifc T d)|_=>none)
  | .agg ts=>(match v with | .agg vs=>(match kY (tR σ n) ts vs with|some r=>some (.agg r)|none=>none)|_=>none)
  | .tup ts=>(match v with | .tup vs=>(match kY (tR σ n) ts vs with|some r=>some (.tup r)|none=>none)|_=>none)
  | .fn _ a b=>(match v with
   | .fn f a' b'=>(match kY (tR σ n) a a' with|some ra=>(match kY (tR σ n) b b' with|some rb=>some (.fn f ra rb)|none=>none)|none=>none)
   |_=>none)
  | .ptr id _ _ _=>(match v with | .ptr j k i o=>(match mK σ id with|some j'=>(match Nat.beq j' j with|true=>some (.ptr id k i o)|false=>none)|none=>none)|_=>none)
  | .own id _=>(match v with | .own j m=>(match mK σ id with|some j'=>(match Nat.beq j' j with|true=>some (.own id m)|false=>none)|none=>none)|_=>none)
  | .map id=>(match v with | .map j=>(match mK σ id with|some j'=>(match Nat.beq j' j with|true=>some (.map id)|false=>none)|none=>none)|_=>none)
  | .adr id=>(match v with
   | .adr j=>(match mK σ id with|some j'=>(match Nat.beq j' j with|true=>some (.adr id)|false=>none)|none=>none)
   | .ptr j _ 0 0=>(match mK σ id with|some j'=>(match Nat.beq j' j with|true=>some (.adr id)|false=>none)|none=>none)
   | .con x=>(match x with | .pointer none=>(match mK σ id with|some _=>some (.adr id)|none=>none)|_=>none)
   |_=>none)
  | .dsl _ _ _=>(match v with | .dsl e k r=>(match σ with|[]=>none|_::_=>some (.dsl e k r))|_=>none)
  | .dmp _=>(match v with | .dmp e=>(match σ with|[]=>none|_::_=>some (.dmp e))|_=>none)
  | .dpt _ _=>(match v with | .dpt e r=>(match σ with|[]=>none|_::_=>some (.dpt e r))|_=>none)
  | .plc _ _=>(match v with | .plc v0 d=>(match σ with|[]=>none|_::_=>some (.plc v0 d))|_=>none)
def sg(σ:List Nat):Nat->Nat:=fun i=>σ.getD i 0
theorem lg{σ:List Nat}{i j:Nat}(h:mK σ i=some j):Nat.blt i σ.length=true/\sg σ i=j:=by
 have h:=fw h;have h2:=(ba8.1 h).1
 simp_all[sg]
theorem ky{Yo:Hy}{f:V->V->Option V}(hf:∀a b r,f a b=some r->ap Yo r b):∀{al bs r:List V},kY f al bs=some r->iW Yo r bs
 |[],bs,r,h=>by
  simp only[kY] at h;split at h
  ·simp at h;subst h;exact .nil
  grind
 |a::al,bs,r,h=>by
  simp only[kY] at h;split at h
  ·split at h
   ·rename_i q hq;split at h
    ·rename_i p hp;simp at h;subst h;exact .cons (hf _ _ _ hq) (ky hf hp)
    ·simp at h
   ·simp at h
  ·simp at h
theorem ap.tupS{Yo:Hy}{l l':List V}(h:iW Yo l l')(hi:∀m β m' β' v v' x,Yo m β m' β'->ap Yo v v'->ct m v' x->bP m' β' v x):ap Yo (.tup l) (.tup l'):=by
 intro m β m' β' x hy hx;cases hx with
 |imm hx=>cases hx with
  |tup hl hh=>
   refine .tup (h.len.trans hl) (fun i c v hc hv=>?_);obtain⟨c',hc'⟩:∃c',l'[i]? = some c':=⟨l'[i]'(by grind),by simp⟩;exact hi m β m' β' c c' v hy (h.get i c c' hc hc') (hh i c' v hc' hv)
 |tup hl hh=>
  refine .tup (h.len.trans hl) (fun i c v hc hv=>?_);obtain⟨c',hc'⟩:∃c',l'[i]? = some c':=⟨l'[i]'(by grind),by simp⟩;exact h.get i c c' hc hc' m β m' β' v hy (hh i c' v hc' hv)
theorem ap.fnS{Yo:Hy}{f:Fn}{l l' k k':List V}(h:iW Yo l l')(h2:iW Yo k k'):ap Yo (.fn f l k) (.fn f l' k'):=by
 intro m β m' β' x hy hx
 have key:∀{l l':List V},iW Yo l l'->∀(fs:Array Value),l'.length=fs.size->(∀(i:Nat) (c:V) (v:Value),l'[i]? = some c->fs[i]? = some v->bP m β c v)->
   l.length=fs.size/\∀(i:Nat) (c:V) (v:Value),l[i]? = some c->fs[i]? = some v->bP m' β' c v:=by
  intro l l' h fs hl hh;refine⟨h.len.trans hl,fun i c v hc hv=>?_⟩;obtain⟨c',hc'⟩:∃c',l'[i]? = some c':=⟨l'[i]'(by grind),by simp⟩;exact h.get i c c' hc hc' m β m' β' v hy (hh i c' v hc' hv)
 cases hx with
 |imm hx=>cases hx with
  |fn h3 h4 h5 h6=>
   obtain⟨a1,a2⟩:=key h _ h3 (fun i c v hc hv=>.imm (h5 i c v hc hv));obtain⟨b1,b2⟩:=key h2 _ h4 (fun i c v hc hv=>.imm (h6 i c v hc hv));exact .fn a1 b1 a2 b2
 |fn h3 h4 h5 h6=>
  obtain⟨a1,a2⟩:=key h _ h3 h5;obtain⟨b1,b2⟩:=key h2 _ h4 h6;exact .fn a1 b1 a2 b2
theorem ap.adr{n id j:Nat}{σ:Nat->Nat}(hn:Nat.blt id n=true)(hj:σ id=j):ap (Ren n σ) (.adr id) (.adr j):=fun m β m' β' x hy hx=>by
 have h:=hy.2 id (av8 hn);rw[hj] at h;cases hx with
 |imm h=>cases h
 |adrNil=>exact .adrNil
 |adr hb=>exact .adr (by grind)
theorem ap.adrPtr{n id j k:Nat}{σ:Nat->Nat}(hn:Nat.blt id n=true)(hj:σ id=j):ap (Ren n σ) (.adr id) (.ptr j k 0 0):=fun m β m' β' x hy hx=>by
 have h:=hy.2 id (av8 hn);rw[hj] at h;cases hx with
 |imm h=>cases h
 |ptr hb=>have:=bP.adr (m:=m') (β:=β') (id:=id) (by rw[h];exact hb);grind
theorem ap.adrNil{Yo:Hy}{id:Nat}:ap Yo (.adr id) (.con (.pointer none)):=fun m β m' β' x _ hx=>by
 rw[hx.of_con];exact .adrNil
theorem jO{σ:List Nat}:∀(n:Nat) (tv v r:V),tR σ n tv v=some r->ap (Ren σ.length (sg σ)) r v
 |0,_,_,_,h=>by simp[tR] at h
 |n+1,tv,v,r,h=>by
  have im:∀{v:V},aN v->ap (Ren σ.length (sg σ)) v v:=fun h=>ap.imm h;simp only[tR] at h;split at h
  ·simp at h;subst h;exact ap.any
  ·split at h
   ·simp at h;subst h;exact im (aN.con _)
   ·simp at h
  ·split at h
   ·simp at h;subst h;exact im (aN.lst _ _)
   ·split at h
    ·simp at h;subst h;exact ap.nil _
    ·simp at h
   ·simp at h
  ·split at h
   ·simp at h;subst h;exact im (aN.iptr _ _)
   ·simp at h
  ·split at h
   ·simp at h;subst h;exact im (aN.imap _)
   ·simp at h
  ·split at h
   ·simp at h;subst h;exact im (aN.ifc _ _)
   ·simp at h
  ·split at h
   ·split at h
    ·rename_i q hq;simp at h;subst h;exact ap.agg (ky (jO n) hq)
    ·simp at h
   ·simp at h
  ·split at h
   ·split at h
    ·rename_i q hq;simp at h;subst h;exact ap.tupS (ky (jO n) hq) (fun m β m' β' v v' x hy hs hv=>hs m β m' β' x hy (.imm hv))
    ·simp at h
   ·simp at h
  ·split at h
   ·split at h
    ·rename_i q hq;split at h
     ·rename_i p hp;simp at h;subst h;exact ap.fnS (ky (jO n) hq) (ky (jO n) hp)
     ·simp at h
    ·simp at h
   ·simp at h
  ·split at h
   ·split at h
    ·rename_i j' hj;split at h
     ·rename_i hb;simp at h;subst h;obtain⟨h1,h2⟩:=lg hj;exact ap.ptr h1 (h2.trans (cd8 hb))
     ·simp at h
    ·simp at h
   ·simp at h
  ·split at h
   ·split at h
    ·rename_i j' hj;split at h
     ·rename_i hb;simp at h;subst h;obtain⟨h1,h2⟩:=lg hj;exact ap.own h1 (h2.trans (cd8 hb))
     ·simp at h
    ·simp at h
   ·simp at h
  ·split at h
   ·split at h
    ·rename_i j' hj;split at h
     ·rename_i hb;simp at h;subst h;obtain⟨h1,h2⟩:=lg hj;exact ap.map h1 (h2.trans (cd8 hb))
     ·simp at h
    ·simp at h
   ·simp at h
  ·split at h
   ·split at h
    ·rename_i j' hj;split at h
     ·rename_i hb;simp at h;subst h;obtain⟨h1,h2⟩:=lg hj;exact ap.adr h1 (h2.trans (cd8 hb))
     ·simp at h
    ·simp at h
   ·split at h
    ·rename_i j' hj;split at h
     ·rename_i hb;simp at h;subst h;obtain⟨h1,h2⟩:=lg hj;exact ap.adrPtr h1 (h2.trans (cd8 hb))
     ·simp at h
    ·simp at h
   ·split at h
    ·split at h
     ·simp at h;subst h;exact ap.adrNil
     ·simp at h
    ·simp at h
   ·simp at h
  ·split at h
   ·split at h
    ·simp at h
    ·simp at h;subst h;exact ap.kp (ef.dsl _ _ _)
   ·simp at h
  ·split at h
   ·split at h
    ·simp at h
    ·simp at h;subst h;exact ap.kp (ef.dmp _)
   ·simp at h
  ·split at h
   ·split at h
    ·simp at h
    ·simp at h;subst h;exact ap.kp (ef.dpt _ _)
   ·simp at h
  ·split at h
   ·split at h
    ·simp at h
    ·simp at h;subst h;exact ap.kp (ef.plc _ _)
   ·simp at h
theorem jJ.any{Yo:Hy}{v:V}:jJ Yo .any v:=fun _ _ _ _ _ _ _ _ _=>.inl (.imm (.any _))
theorem Hj{σ:List Nat}{n:Nat}{tv v r:V}(h:tR σ n tv v=some r)(hd:v.deep=true):r=.any\/r=v/\ef v:=by
 cases n with
 |zero=>simp[tR] at h
 |succ n=>
  cases σ<;>cases v<;>simp[V.deep] at hd<;>cases tv<;>simp[tR] at h<;>subst h<;>first|exact .inl rfl|exact .inr ⟨rfl,ef.dsl _ _ _⟩|exact .inr ⟨rfl,ef.dmp _⟩|exact .inr ⟨rfl,ef.dpt _ _⟩|exact .inr ⟨rfl,ef.plc _ _⟩
theorem zU{σ:List Nat}{n:Nat}{tv v r:V}(h:tR σ n tv v=some r):jJ (Ren σ.length (sg σ)) r v:=by
 cases hd:v.deep with
 |false=>exact .sub (jO n tv v r h) hd
 |true=>
  rcases Hj h hd with rfl|⟨rfl,hk⟩
  ·exact jJ.any
  ·exact .same md.h (ap.kp hk)
theorem qG{Yo:Hy}{f:V->V->Option V}(hf:∀a b r,f a b=some r->jJ Yo r b):∀{al bs r:List V},kY f al bs=some r->r.length=bs.length/\∀(j:Nat) c c',r[j]? = some c->bs[j]? = some c'->jJ Yo c c'
 |[],bs,r,h=>by
  grind [kY]
 |a::al,bs,r,h=>by
  simp only[kY] at h;split at h
  ·split at h
   ·rename_i q hq;split at h
    ·rename_i p hp;simp at h;subst h;obtain⟨h1,h2⟩:=qG hf hp<;>grind
    grind
   grind
  grind
theorem i8{f:V->V->Option V}(hf:∀a b r,f a b=some r->aN r):∀{al bs r:List V},kY f al bs=some r->cN r
 |[],bs,r,h=>by
  simp only[kY] at h;split at h
  ·simp at h;subst h;exact .nil
  grind
 |a::al,bs,r,h=>by
  simp only[kY] at h;split at h
  ·split at h
   ·rename_i q hq;split at h
    ·rename_i p hp;simp at h;subst h;exact .cons (hf _ _ _ hq) (i8 hf hp)
    ·simp at h
   ·simp at h
  ·simp at h
theorem nW:∀(n:Nat) (tv v r:V),tR [] n tv v=some r->aN r
 |0,_,_,_,h=>by simp[tR] at h
 |n+1,tv,v,r,h=>by
  simp only[tR] at h;split at h
  ·simp at h;subst h;exact aN.any
  ·split at h
   ·simp at h;subst h;exact aN.con _
   ·simp at h
  ·split at h
   ·simp at h;subst h;exact aN.lst _ _
   ·split at h
    ·simp at h;subst h;exact aN.lst _ _
    ·simp at h
   ·simp at h
  ·split at h
   ·simp at h;subst h;exact aN.iptr _ _
   ·simp at h
  ·split at h
   ·simp at h;subst h;exact aN.imap _
   ·simp at h
  ·split at h
   ·simp at h;subst h;exact aN.ifc _ _
   ·simp at h
  ·split at h
   ·split at h
    ·rename_i q hq;simp at h;subst h;exact aN.agg (i8 (nW n) hq)
    ·simp at h
   ·simp at h
  ·split at h
   ·split at h
    ·rename_i q hq;simp at h;subst h;exact aN.tup (i8 (nW n) hq)
    ·simp at h
   ·simp at h
  ·split at h
   ·split at h
    ·rename_i q hq;split at h
     ·rename_i p hp;simp at h;subst h;exact aN.fn (i8 (nW n) hq) (i8 (nW n) hp)
     ·simp at h
    ·simp at h
   ·simp at h
  all_goals
   split at h
   all_goals first
    |(simp[mK] at h;done)
    |(simp at h;done)
    |(split at h<;>simp[mK] at h;done)
theorem Hi{n:Nat}{tv v r:V}(h:tR [] n tv v=some r):Fu r v:=fun m β x hx=>
 (nW n tv v r h).2 m β x (jO n tv v r h m β m β x ⟨rfl,fun id hid=>by simp at hid⟩ hx)
theorem D9{n:Nat}:∀{al bs r:List V},kY (tR [] n) al bs=some r->r.length=bs.length/\∀(i:Nat) c c',r[i]? = some c->bs[i]? = some c'->Fu c c':=by
 intro al bs r h;have h1:=ky (Yo:=Ren 0 (sg [])) (jO n) h;refine⟨h1.len,fun i c c' hc hc' m β x hx=>?_⟩;exact((i8 (nW n) h).get hc).2 m β x (h1.get i c c' hc hc' m β m β x ⟨Y,fun id hid=>by simp at hid⟩ hx)
section
variable{K:dE}{Q:cG}{S S':St}{s s':List It}{ops:Array Oper}{l:List Oper}{t:TT}
def PJ(σ:List Nat)(e:cE):cE->Option cE
 |[]=>some []
 |(k,tv)::r=>(match qE e k with|some v=>(match tR σ 8 tv v with|some v'=>(match PJ σ e r with|some q=>some ((k,v')::q)|none=>none)|none=>none)|none=>none)
theorem Hk{σ:List Nat}{e:cE}:∀{T r:cE},PJ σ e T=some r->bY (Ren σ.length (sg σ)) e r
 |[],r,h=>by simp[PJ] at h;subst h;exact .nil
 |(k,tv)::T,r,h=>by
  simp only[PJ] at h;split at h
  ·rename_i v hv;split at h
   ·rename_i v' hv';split at h
    ·rename_i q hq;simp at h;subst h;exact .cons (by rw[eu hv];exact jO _ _ _ _ hv') (Hk hq)
    ·simp at h
   ·simp at h
  ·simp at h
def wo(x:Nat):List Nat->Bool
 |[]=>true
 |y::l=>bif Nat.beq x y then false else wo x l
def nodup:List Nat->Bool
 |[]=>true
 |x::l=>bif wo x l then nodup l else false
theorem zW{x:Nat}:∀{l:List Nat},wo x l=true->x ∉ l
 |[],_=>by simp
 |y::l,h=>by
  simp only[wo] at h;cases hb:Nat.beq x y with
  |true=>rw[hb] at h;simp at h
  |false=>
   rw[hb] at h;simp at h;simp[cg8 hb,zW h]
theorem tS:∀{l:List Nat},nodup l=true->∀i,i<l.length->∀j,j<l.length->sg l i=sg l j->i=j
 |[],_,i,hi,_,_,_=>by simp at hi
 |x::l,h,i,hi,j,hj,e=>by
  simp only[nodup] at h;cases hb:wo x l with
  |false=>rw[hb] at h;simp at h
  |true=>
   rw[hb] at h;simp at h;have hx:=zW hb
   have mem:∀q,q<l.length->sg l q∈l:=by
    intro q hq;simp[sg,ch8,ax9 hq]
   cases i with
   |zero=>cases j with
    |zero=>rfl
    |succ j=>
     have:x=sg l j:=by simpa[sg] using e
     exact absurd (this ▸ mem j (by simpa using hj)) hx
   |succ i=>cases j with
    |zero=>
     have:sg l i=x:=by simpa[sg] using e
     exact absurd (this ▸ mem i (by simpa using hi)) hx
    |succ j=>rw[tS h i (by simpa using hi) j (by simpa using hj) (by simpa[sg] using e)]
class RI (rows:List (List V)):Prop where
 h:∀row,row∈rows->cN row
class EI {α:Type} (enc:α->List V):Prop where
 h:∀x,cN (enc x)
 o:∀x,(enc x).all dL=true
class EM {α:Type} (enc:α->Value×V):Prop where
 h:∀x,aN (enc x).2
class RK (rows:List (List V)):Prop where
 h:∀row,row∈rows->jD row
class EK {α:Type} (enc:α->List V):Prop where
 h:∀x,jD (enc x)
class P5 {α:Type} (enc:α->Value×V):Prop where
 h:∀x,ef (enc x).2
instance {α:Type} {enc:α->List V} [i:EI enc] {a:List α}:RI (a.map enc):=⟨aj i.h⟩
instance:RI []:=⟨by simp⟩
theorem Da{rows:List (List V)}(h:∀row,row∈rows->cN row):∀row,row∈rows->∀c,c∈row->c.deep=false:=fun row hr c hc=>(h row hr c hc).1
instance {rows:List (List V)} [i:RI rows]:RK rows:=⟨fun row hr=>(i.h row hr).keep⟩
instance {α:Type} {enc:α->List V} [i:EK enc] {a:List α}:RK (a.map enc):=⟨fun row hr=>by obtain⟨x,_,rfl⟩:=bb9.1 hr;exact i.h x⟩
instance {α:Type} {enc:α->Value×V} [i:EM enc]:P5 enc:=⟨fun x=>(i.h x).2⟩
abbrev HS(σ:List Nat):=bT (Ren σ.length (sg σ)) σ.length (sg σ)
theorem hR{σ:List Nat}{hp T:aJ}{id e k:Nat}{rows:List (List V)}[i:RK rows](hn:Nat.blt id σ.length=true)(h:ao hp (sg σ id)=.arr e k rows)(r:HS σ hp T):
  HS σ hp ((id,.arr e k rows)::T):=.cons hn (by rw[h];exact ae.rowsK i.h) r
theorem hD{σ:List Nat}{hp T:aJ}{id:Nat}(hn:Nat.blt id σ.length=true)(r:HS σ hp T):HS σ hp ((id,.dead)::T):=.cons hn (by simp[ae]) r
theorem hM{α:Type}{enc:α->Value×V}[i:P5 enc]{σ:List Nat}{hp T:aJ}{id:Nat}{es:List α}(hn:Nat.blt id σ.length=true)(h:ao hp (sg σ id)=.map (es.map enc))(r:HS σ hp T):
  HS σ hp ((id,.map (es.map enc))::T):=.cons hn (by
   rw[h];refine ae.mapsK (fun p hp=>?_);obtain⟨x,_,rfl⟩:=bb9.1 hp;exact i.h x) r
theorem hI{σ:List Nat}{hp T:aJ}{id:Nat}{c l:List (Value×V)}(hn:Nat.blt id σ.length=true)(h:ao hp (sg σ id)=.iter c l)(r:HS σ hp T):HS σ hp ((id,.iter [] l)::T):=
 .cons hn (by rw[h];exact⟨by simp,rfl,md.h⟩) r
theorem hB{σ:List Nat}{hp T:aJ}{id e k:Nat}{row row':List V}(hn:Nat.blt id σ.length=true)(h:ao hp (sg σ id)=.arr e k [row'])(hz:kY (tR σ 8) row row'=some row)(r:HS σ hp T):
  HS σ hp ((id,.arr e k [row])::T):=.cons hn (by rw[h];exact ae.boxC (qG (fun _ _ _ h=>zU h) hz).1 (qG (fun _ _ _ h=>zU h) hz).2) r
def wi(σ:List Nat):Nat->Bool
 |0=>true
 |q+1=>match mK σ q with|some j=>(match Nat.beq j q with|true=>wi σ q|false=>false)|none=>false
theorem tM{σ:List Nat}:∀{p:Nat},wi σ p=true->qV σ.length (sg σ) p=true
 |0,_=>rfl
 |q+1,h=>by
  simp only[wi] at h;split at h
  ·rename_i j hj;split at h
   ·rename_i hb;obtain⟨h1,h2⟩:=lg hj;simp only[qV,h1,h2,hb,tM h,Bool.and_self]
   ·simp at h
  ·simp at h
theorem gr{e env:cE}{hp T:aJ}{nx n:Nat}(σ:List Nat)(he:PJ σ e env=some env)(hh:HS σ hp T)(hc:(nodup σ&&(gG n σ&&wi σ K.pins))=true):bb K ⟨e,hp,nx⟩ ⟨env,T,n⟩:=by
 simp only[ao8] at hc;have hl:=eU hc.2.1;subst hl;exact bh σ.length (sg σ) _ _ (tS hc.1) (Hk he).get hh.get (tM hc.2.2)
theorem g0{e env:cE}{hp:aJ}{nx:Nat}(he:PJ [] e env=some env)(hc:wi [] K.pins=true):bb K ⟨e,hp,nx⟩ ⟨env,[],0⟩:=gr [] he .nil (by simp[nodup,gG,hc])
def Ss(t:TT)(e:cE)(hp:aJ):ResultVar->Option V
 | .tmp x=>qE e x
 | .cell x T=>(match qE e x with
  |some (.ptr id k i o)=>(match rj hp id with
   |some (.arr _ k2 rows)=>(match Nat.beq k k2 with|true=>(match mK rows i with|some row=>EQ t T row o|none=>none)|false=>none)
   |_=>none)
  |_=>none)
theorem NK(ht:dm K.P t){rv:ResultVar}{v d:V}(h:Ss t S.env S.hp rv=some v)(hd:tR [] 8 d v=some d):fd K.P S rv d:=by
 have hi:=Hi hd;cases rv with
 |tmp x=>exact .tmp (eu h) hi
 |cell x T=>
  simp only[Ss] at h;split at h
  ·rename_i hx;split at h
   ·rename_i ho;split at h
    ·rename_i hk;have hk:=cd8 hk;subst hk;split at h
     ·rename_i row hr;cases hn:dV t T TF.qA with
      |some n=>
       obtain⟨cs,rfl,hc,hdd⟩:=sU hn h;exact .agg (K8 ht hn) (eu hx) (gk ho) (fw hr) (mV hc).1 (mV hc).2 hdd hi
      |none=>
       obtain⟨hq,hc,hdd⟩:=pW hn h;exact .cell (K7 ht hq) (eu hx) (gk ho) (fw hr) (fw hc) hdd hi
     grind
    grind
   grind
  grind
def FK(t:TT)(S:St)(rv:ResultVar)(d:V):Option V:=match Ss t S.env S.hp rv with|some v=>tR [] 8 d v|none=>none
theorem j7(ht:dm K.P t){rv:ResultVar}{d:V}(h:FK t S rv d=some d):fd K.P S rv d:=by
 grind [FK,NK]
variable{R:Type}{x r:R}
def Su(t:TT)(S:St):List ResultVar->V->Option V
 |[],d=>(match d with | .tup ds=>(match ds with|[]=>some (.tup [])|_=>none)|_=>none)
 |[a],d=>FK t S a d
 |[a,b],d=>(match d with
  | .tup ds=>(match ds with
   |[x,y]=>(match FK t S a x with|some x'=>(match FK t S b y with|some y'=>some (.tup [x',y'])|none=>none)|none=>none)
   |_=>none)
  |_=>none)
 |[a,b,c],d=>(match d with
  | .tup ds=>(match ds with
   |[x,y,z]=>(match FK t S a x with|some x'=>(match FK t S b y with|some y'=>(match FK t S c z with|some z'=>some (.tup [x',y',z'])|none=>none)|none=>none)|none=>none)
   |_=>none)
  |_=>none)
 |[a,b,c,e],d=>(match d with
  | .tup ds=>(match ds with
   |[x,y,z,u]=>(match FK t S a x with|some x'=>(match FK t S b y with|some y'=>(match FK t S c z with|some z'=>(match FK t S e u with|some u'=>some (.tup [x',y',z',u'])|none=>none)|none=>none)|none=>none)|none=>none)
   |_=>none)
  |_=>none)
 |_,_=>none
theorem NN(ht:dm K.P t){l:List ResultVar}{d:V}(h:Su t S l d=some d):yQ K.P S l d:=by
 unfold Su at h;split at h
 ·split at h
  ·split at h
   ·exact .none
   grind
  grind
 ·exact .one (j7 ht h)
 ·split at h
  ·split at h
   ·split at h
    ·rename_i h1;split at h
     ·rename_i h2;simp at h;obtain⟨rfl,rfl⟩:=h;exact .two (j7 ht h1) (j7 ht h2)
     grind
    grind
   grind
  grind
 ·split at h
  ·split at h
   ·split at h
    ·rename_i h1;split at h
     ·rename_i h2;split at h
      ·rename_i h3;simp at h;obtain⟨rfl,rfl,rfl⟩:=h;exact .three (j7 ht h1) (j7 ht h2) (j7 ht h3)
      grind
     grind
    grind
   grind
  grind
 ·split at h
  ·split at h
   ·split at h
    ·rename_i h1;split at h
     ·rename_i h2;split at h
      ·rename_i h3;split at h
       ·rename_i h4;simp at h;obtain⟨rfl,rfl,rfl,rfl⟩:=h;exact .four (j7 ht h1) (j7 ht h2) (j7 ht h3) (j7 ht h4)
       grind
      grind
     grind
    grind
   grind
  grind
 grind
def Qk(P:Program)(l:List ResultVar)(d:R->V)(r:R):cG:=Ql P l (d r)
theorem rt[ht:TC K t]{d:R->V}{l:List ResultVar}(h:some x=some r)(hv:Su t S l (d x)=some (d x)):WG K (Qk K.P l d r) (.c .ret::s) S:=by
 have:=ah8 h;subst this;exact yz (jj ⟨.inl Y,NN ht.h hv⟩)
theorem pin{gl:Gl}{P:Program}{f:FuncId}{fn:Func}{c:Code}{N:Nat}{args:List V}{l:List ResultVar}{env:cE}{dr:V}(d:R->V)(r:R)(hd:d r=dr)(hf:P.funcs[f]? = some fn)(hb:fn.body=some c)(hN:fn.ntmps=N)
  (hl:fn.results=l.toArray) (ha:Nat.ble args.length N=true) (henv:E7 (gL 0 args)=some env)
  (h:∀(w0:World) (m0:bZ) (hg:gT gl m0),WG (SL gl P N w0 m0 hg) (Qk P l d r) [.c c] ⟨env,[],0⟩):ek gl P f args dr:=hd ▸ BI hf hb hN hl ha env (kg henv) h
theorem ck{p:Prop}[Decidable p]{A:Option R}{G:Prop}(h:(if p then A else none)=some r)(k:p->A=some r->G):G:=let ⟨a,b⟩:=IF h;k a b
def rR(N:Nat)(ops:Array Oper)(e:cE)(o:Oper):Option Nat:=
 match wt ops e o.guard with
 |some b=>(match b with|true=>(match o.dst with|some d=>(match Nat.blt d N with|true=>some d|false=>none)|none=>none)|false=>none)
 |none=>none
theorem lI{e:cE}(ha:Ag e S){o:Oper}{N d:Nat}(h:rR N ops e o=some d):aT ops S o true/\o.dst=some d/\Nat.blt d N=true:=by
 grind [rR,jL]
def JI(t:TT)(e:cE):Op->Option (V×Int×Nat)
 | .indexAddr T x y=>(match dV t T TF.qSl with
  |some k=>(match eX e x with
   |some v=>(match eX e y with|some (.con (.int _ n))=>some (v,n,k)|_=>none)
   |none=>none)
  |none=>none)
 |_=>none
section
variable{α:Type}{a:List α}{n:Int}{y:α}{enc:α->List V}{d k:Nat}{o:Oper}{e:cE}{hp:aJ}{nx:Nat}
theorem QC(ht:dm K.P t)(hx:cH a n=some y)(hd:rR K.N ops e o=some d)(hs:JI t e o.op=some (.lst k (a.map enc),n,k))
  (ha:Ag e S) (kk:aD K ops l Q (S.put d (.iptr (enc y) 0))):aD K ops (o::l) Q S:=by
 obtain⟨dst,op,ty,pos,after,g⟩:=o;obtain⟨h1,h2,h3⟩:=lI ha hd;simp only at h2;subst h2;cases op<;>simp only[JI,reduceCtorEq] at hs;split at hs
 ·rename_i hk;split at hs
  ·rename_i hv;split at hs
   ·rename_i hy;simp only[av9,Prod.mk.injEq] at hs;obtain⟨rfl,rfl,rfl⟩:=hs;exact uR _ (AM ht hk) h1 (bd ha hv) (bd ha hy) (kQ hx).1 (og enc hx) h3 kk
   ·simp at hs
  ·simp at hs
 ·simp at hs
theorem gZ[ht:TC K t](hx:cH a n=some y)(hd:rR K.N ops e o=some d)(hs:JI t e o.op=some (.lst k (a.map enc),n,k))
  (kk:WG K Q (.o ops l::s) ⟨(d,.iptr (enc y) 0)::e,hp,nx⟩):WG K Q (.o ops (o::l)::s) ⟨e,hp,nx⟩:=QC ht.h hx hd hs (yP (S:=⟨e,hp,nx⟩)) kk
theorem iQ{f:α->Option R}[ht:TC K t](h:(cH a n).bind f=some r)(hd:rR K.N ops e o=some d)(hs:JI t e o.op=some (.lst k (a.map enc),n,k))
  (kk:∀y,cH a n=some y->f y=some r->WG K Q (.o ops l::s) ⟨(d,.iptr (enc y) 0)::e,hp,nx⟩):WG K Q (.o ops (o::l)::s) ⟨e,hp,nx⟩:=
 let ⟨y,hy,h⟩:=bind_some h;gZ hy hd hs (kk y hy h)
theorem MA{id len:Nat}(ht:dm K.P t)(hx:cH a n=some y)(hd:rR K.N ops e o=some d)(hs:JI t e o.op=some (.own id len,n,k))(hl:len=a.length)
  (ha:Ag e S) (kk:aD K ops l Q (S.put d (.ptr id k n.toNat 0))):aD K ops (o::l) Q S:=by
 obtain⟨dst,op,ty',pos,after,g⟩:=o;obtain⟨h1,h2,h3⟩:=lI ha hd;simp only at h2;subst h2;cases op<;>simp only[JI,reduceCtorEq] at hs;split at hs
 ·rename_i hk;split at hs
  ·rename_i hv;split at hs
   ·rename_i hy;simp only[av9,Prod.mk.injEq] at hs;obtain⟨rfl,rfl,rfl⟩:=hs;exact na (AM ht hk) h1 (bd ha hv) (bd ha hy) (kQ hx).1 (by rw[hl];exact N3 hx) h3 kk
   ·simp at hs
  ·simp at hs
 ·simp at hs
theorem HY{id len:Nat}[ht:TC K t](hx:cH a n=some y)(hd:rR K.N ops e o=some d)(hs:JI t e o.op=some (.own id len,n,k))(hl:len=a.length)
  (kk:WG K Q (.o ops l::s) ⟨(d,.ptr id k n.toNat 0)::e,hp,nx⟩):WG K Q (.o ops (o::l)::s) ⟨e,hp,nx⟩:=MA ht.h hx hd hs hl (yP (S:=⟨e,hp,nx⟩)) kk
theorem MB{f:α->Option R}{id len:Nat}[ht:TC K t](h:(cH a n).bind f=some r)(hd:rR K.N ops e o=some d)(hs:JI t e o.op=some (.own id len,n,k))(hl:len=a.length)
  (kk:∀y,cH a n=some y->f y=some r->WG K Q (.o ops l::s) ⟨(d,.ptr id k n.toNat 0)::e,hp,nx⟩):WG K Q (.o ops (o::l)::s) ⟨e,hp,nx⟩:=
 let ⟨y,hy,h⟩:=bind_some h;HY hy hd hs hl (kk y hy h)
def ixS(t:TT)(e:cE):Op->Option (ByteArray×Int)
 | .index T x y=>(match dV t T TF.qStr with
  |some _=>(match eX e x with
   |some (.con v)=>(match v with | .string s=>(match eX e y with|some (.con (.int _ n))=>some (s,n)|_=>none)|_=>none)
   |_=>none)
  |none=>none)
 |_=>none
theorem Kz{f:UInt8->Option R}{b:B8}[ht:TC K t](h:(cH b n).bind f=some r)(hd:rR K.N ops e o=some d)(hs:ixS t e o.op=some (⟨b.toArray⟩,n))
  (kk:∀y,cH b n=some y->f y=some r->WG K Q (.o ops l::s) ⟨(d,.con (.int .u8 y.toNat))::e,hp,nx⟩):WG K Q (.o ops (o::l)::s) ⟨e,hp,nx⟩:=by
 obtain⟨y,hy,hf⟩:=bind_some h;obtain⟨dst,op,ty',pos,after,g⟩:=o;obtain⟨h1,h2,h3⟩:=lI (yP (S:=⟨e,hp,nx⟩)) hd;simp only at h2;subst h2;cases op<;>simp only[ixS,reduceCtorEq] at hs;split at hs
 ·rename_i hk;split at hs
  ·rename_i hv;split at hs
   ·split at hs
    ·rename_i hyy;simp only[av9,Prod.mk.injEq] at hs;obtain⟨rfl,rfl⟩:=hs;exact rU y (yB ht.h hk) h1 (bd (yP (S:=⟨e,hp,nx⟩)) hv) (bd (yP (S:=⟨e,hp,nx⟩)) hyy) (kQ hy).1 (kQ hy).2 h3 (kk y hy hf)
    ·simp at hs
   ·simp at hs
  ·simp at hs
 ·simp at hs
def R5(t:TT)(e:cE):Op->Option V
 | .call c=>(match c.callee with
  | .builtin b=>(match b,c.args.toList,c.argTypes.toList with
   | .len,[x],[T]=>(match dV t T TF.qSn with|some _=>eX e x|none=>none)
   |_,_,_=>none)
  |_=>none)
 |_=>none
theorem lnA(ht:dm K.P t)(hd:rR K.N ops e o=some d)(hs:R5 t e o.op=some (.lst k (a.map enc)))
  (ha:Ag e S) (kk:aD K ops l Q (S.put d (iV a.length))):aD K ops (o::l) Q S:=by
 obtain⟨dst,op,ty',pos,after,g⟩:=o;obtain⟨h1,h2,h3⟩:=lI ha hd;simp only at h2;subst h2;cases op<;>simp only[R5,reduceCtorEq] at hs;rename_i c;obtain⟨callee,args,at'⟩:=c;simp only at hs;split at hs
 ·split at hs
  ·rename_i h4 h5;have h4:=fJ h4;have h5:=fJ h5;subst h4;subst h5;split at hs
   ·rename_i hT;exact uQ (n:=a.length) (kV ht hT) h1 (bd ha hs) (congrArg some (be8 ..)) h3 kk
   ·simp at hs
  ·simp at hs
 ·simp at hs
theorem ln[ht:TC K t](hd:rR K.N ops e o=some d)(hs:R5 t e o.op=some (.lst k (a.map enc)))
  (kk:WG K Q (.o ops l::s) ⟨(d,iV a.length)::e,hp,nx⟩):WG K Q (.o ops (o::l)::s) ⟨e,hp,nx⟩:=lnA ht.h hd hs (yP (S:=⟨e,hp,nx⟩)) kk
def R6(e:cE):Op->Option (V×Nat)
 | .load T x=>(match eX e x with|some v=>some (v,T)|none=>none)
 |_=>none
theorem Qz{id ty off T:Nat}{v:V}(ht:dm K.P t)(hx:cH a n=some y)(hd:rR K.N ops e o=some d)(hs:R6 e o.op=some (.ptr id k n.toNat off,T))(ho:ao S.hp id=.arr ty k (a.map enc))
  (hv:EQ t T (enc y) off=some v) (ha:Ag e S) (kk:aD K ops l Q (S.put d v)):aD K ops (o::l) Q S:=by
 obtain⟨dst,op,ty',pos,after,g⟩:=o;obtain⟨h1,h2,h3⟩:=lI ha hd;simp only at h2;subst h2;cases op<;>simp only[R6,reduceCtorEq] at hs;split at hs
 ·rename_i hxx;simp only[av9,Prod.mk.injEq] at hs;obtain⟨rfl,rfl⟩:=hs;exact Mz ht hv (bd ha hxx) ho (og enc hx) h1 h3 kk
 ·simp at hs
theorem HT{id ty off T:Nat}{v:V}[ht:TC K t](hx:cH a n=some y)(hd:rR K.N ops e o=some d)(hs:R6 e o.op=some (.ptr id k n.toNat off,T))(ho:ao hp id=.arr ty k (a.map enc))
  (hv:EQ t T (enc y) off=some v) (kk:WG K Q (.o ops l::s) ⟨(d,v)::e,hp,nx⟩):WG K Q (.o ops (o::l)::s) ⟨e,hp,nx⟩:=Qz (S:=⟨e,hp,nx⟩) ht.h hx hd hs ho hv (yP (S:=⟨e,hp,nx⟩)) kk
def stD(t:TT)(e:cE):Op->Option (V×List V×Nat)
 | .store T x y=>(match dV t T TF.qS with
  |some n=>(match eX e x with
   |some p=>(match eX e y with
    |some v=>(match M6 v with|some cs=>(match gG n cs&&AY cs with|true=>some (p,cs,n)|false=>none)|none=>none)
    |none=>none)
   |none=>none)
  |none=>none)
 |_=>none
theorem stS{id ty off m:Nat}{cs:List V}(z:α)[ht:TC K t](hx:cH a n=some y)(hw:wt ops e o.guard=some true)(hd:o.dst=none)(hs:stD t e o.op=some (.ptr id k n.toNat off,cs,m))(ho:ao hp id=.arr ty k (a.map enc))
  (hz:(enc y).take off++cs++(enc y).drop (off+m)=enc z) (hl:Nat.ble (off+m) (enc y).length=true)
  (kk:WG K Q (.o ops l::s) ⟨e,(id,.arr ty k ((a.set n.toNat z).map enc))::hp,nx⟩):WG K Q (.o ops (o::l)::s) ⟨e,hp,nx⟩:=by
 obtain⟨dst,op,ty',pos,after,g⟩:=o;have h1:=jL (yP (S:=⟨e,hp,nx⟩)) hw;simp only at hd;subst hd;cases op<;>simp only[stD,reduceCtorEq] at hs;split at hs
 ·rename_i hS;split at hs
  ·rename_i hp';split at hs
   ·rename_i hv;split at hs
    ·rename_i hc;split at hs
     ·rename_i hb;simp only[ao8] at hb;simp only[av9,Prod.mk.injEq] at hs;obtain⟨rfl,rfl,rfl⟩:=hs;have hlen:=eU hb.1;subst hlen;exact gM _ _ (Oz ht.h hS) h1 (bd (yP (S:=⟨e,hp,nx⟩)) hp') (bd (yP (S:=⟨e,hp,nx⟩)) hv) (th hc) (ox hb.2) ho (og enc hx) hl (by rw[hz];exact map_set enc a _ z) kk
     ·simp at hs
    ·simp at hs
   ·simp at hs
  ·simp at hs
 ·simp at hs
end
theorem Fi{o:Oper}{f:FuncId}{fx:Operand}{first captured:List V}{args:Array Operand}{at':Array TypeId}{avs avs0:List V}(hf:cP K.P f=true)(ho:o.op=.call ⟨.value fx,args,at'⟩)
  (hfx:cv K S fx=.fn (.func f) first captured) (ha:first++args.toList.map (cv K S)++captured=avs0)
  (hi:avs.length=avs0.length/\∀(i:Nat) c c',avs[i]? = some c->avs0[i]? = some c'->Fu c c'):
  ∀m β w a,cw K m β w a S->∃vs:Array Value,(execOp a.eval o).run K.P w=.ok (.enter f vs) w/\vl m avs vs:=by
 intro m β w a r;have h:=r.reads fx;rw[hfx] at h
 have key:∃fs cs:Array Value,a.eval fx=.func (.func f) fs cs/\first.length=fs.size/\captured.length=cs.size/\(∀(i:Nat) c v,first[i]? = some c->fs[i]? = some v->bP m β c v)/\
   ∀(i:Nat) c v,captured[i]? = some c->cs[i]? = some v->bP m β c v:=by
  generalize a.eval fx=v at h;cases h with
  |imm h=>cases h with|fn h1 h2 h3 h4=>exact⟨_,_,rfl,h1,h2,fun i c v a b=>.imm (h3 i c v a b),fun i c v a b=>.imm (h4 i c v a b)⟩
  |fn h1 h2 h3 h4=>grind
 obtain⟨fs,cs,e1,e2,e3,e4,e5⟩:=key;refine⟨fs++args.map a.eval++cs,?_,?_⟩
 ·simp_all[execOp,resolve,Deferred.ofValue,invoke,fS]
 ·refine⟨by grind,fun i c v h1 h2=>?_⟩;obtain⟨c',hc'⟩:∃c',avs0[i]? = some c':=⟨avs0[i]'(by grind),by simp⟩;refine hi.2 i c c' h1 hc' m β v ?_
  clear h1
  have h1:=hc';rw[<-ha,bo9,be9,be8] at h1;rw[bx8,bw8,Array.size_map,<-e2] at h2;simp only[bf8] at h1;split at h1
  ·rename_i hlt;rw[if_pos hlt] at h2;rw[bo9] at h1;rw[bx8,<-e2] at h2;split at h1
   ·grind
   ·rename_i hlt';rw[if_neg hlt'] at h2;rw[ax8] at h1;rw[bw9] at h2;cases hx:args[i - first.length]? with
    |none=>grind
    |some x=>
     simp[hx] at h1 h2;subst h1;subst h2;exact r.reads x
  grind
def Ov(e:cE):Op->Option (Nat×List V)
 | .call c=>(match c.callee with
  | .value x=>(match eX e x with
   |some (.fn g first caps)=>(match g with
    | .func f=>(match KM e c.args.toList with
     |some vs=>(match E7 (first++vs++caps) with|some r=>some (f,r)|none=>none)
     |none=>none)
    |_=>none)
   |_=>none)
  |_=>none)
 |_=>none
theorem clA{f d:Nat}{avs avs0:List V}{res:V}{o:Oper}{e:cE}(ht:dm K.P t)(hd:rR K.N ops e o=some d)
  (hs:Ov e o.op=some (f,avs0)) (hF:dV t f TF.qFn=some ()) (hW:ek K.gl K.P f avs res) (hz:kY (tR [] 8) avs avs0=some avs) (ha:Ag e S)
  (kk:aD K ops l Q (S.put d res)):aD K ops (o::l) Q S:=by
 obtain⟨h1,h2,h3⟩:=lI ha hd;obtain⟨dst,op,ty',pos,after,g⟩:=o;cases op<;>simp only[Ov,reduceCtorEq] at hs;rename_i c;obtain⟨callee,args,at'⟩:=c;simp only at hs;split at hs
 ·rename_i x;split at hs
  ·rename_i first caps hx
   split at hs
   ·split at hs
    ·rename_i vs hv;split at hs
     ·rename_i q hq;simp only[av9,Prod.mk.injEq] at hs;obtain⟨rfl,rfl⟩:=hs;have hq:=kg hq;have hv:=ux (K:=K) ha hv;exact jr h1 h2 h3 (Fi (S:=S) (Q8 ht hF) Y (bd ha hx) (by rw[hv];exact hq) (D9 hz)) hW kk
     ·simp at hs
    ·simp at hs
   ·simp at hs
  ·simp at hs
 ·simp at hs
theorem cl{A:Type}{mm:Option A}{fk:A->Option R}{f d:Nat}{avs avs0:List V}{res:A->V}{o:Oper}{e:cE}{hp:aJ}{nx:Nat}[ht:TC K t](h:mm.bind fk=some r)(hd:rR K.N ops e o=some d)
  (hs:Ov e o.op=some (f,avs0)) (hF:dV t f TF.qFn=some ()) (hW:∀y,mm=some y->ek K.gl K.P f avs (res y)) (ha:kY (tR [] 8) avs avs0=some avs)
  (kk:∀y,mm=some y->fk y=some r->WG K Q (.o ops l::s) ⟨(d,res y)::e,hp,nx⟩):WG K Q (.o ops (o::l)::s) ⟨e,hp,nx⟩:=by
 obtain⟨y,hy,h⟩:=bind_some h;exact clA ht.h hd hs hF (hW y hy) ha (yP (S:=⟨e,hp,nx⟩)) (kk y hy h)
def Re(t:TT)(e:cE):Op->Option (V×V×Nat×Nat×Nat)
 | .call c=>(match c.callee with
  | .builtin b=>(match b,c.args.toList,c.argTypes.toList with
   | .append,[x,y],[T,T']=>(match dV t T TF.qEl with
    |some (E,k,by')=>(match dV t T' TF.qSn with
     |some _=>(match eX e x with|some v=>(match eX e y with|some u=>some (v,u,E,k,by')|none=>none)|none=>none)
     |none=>none)
    |none=>none)
   |_,_,_=>none)
  |_=>none)
 |_=>none
theorem SU{α:Type}{xs ys:List α}{enc:α->List V}{d id n E k bytes:Nat}{sv:V}{o:Oper}{e:cE}{hp:aJ}{nx:Nat}[ht:TC K t](hb:(xs++ys).length*bytes<=140737488355328\/((ys.map enc).length=1/\(xs++ys).length*bytes<=211106232532992/\bytes<=1000000))(hd:rR K.N ops e o=some d)
  (hs:Re t e o.op=some (.own id n,sv,E,k,bytes)) (ho:ao hp id=.arr E k (xs.map enc)) (hn:xs.length=n) (hsrc:zo ⟨e,hp,nx⟩ k sv (ys.map enc)) (hp0:(Nat.blt 0 bytes&&Nat.blt 0 k)=true)
  (kk:WG K Q (.o ops l::s) ⟨(d,.own nx (xs++ys).length)::e,(nx,.arr E k ((xs++ys).map enc))::(id,.dead)::hp,nx+1⟩):WG K Q (.o ops (o::l)::s) ⟨e,hp,nx⟩:=by
 obtain⟨h1,h2,h3⟩:=lI (yP (S:=⟨e,hp,nx⟩)) hd;simp only[ao8] at hp0;obtain⟨dst,op,ty',pos,after,g⟩:=o;simp only at h2;subst h2;cases op<;>simp only[Re,reduceCtorEq] at hs;rename_i c;obtain⟨callee,args,at'⟩:=c;simp only at hs;split at hs
 ·split at hs
  ·rename_i h4 h5;have h4:=dZ h4;have h5:=dZ h5;subst h4;subst h5;split at hs
   ·rename_i hE;split at hs
    ·rename_i hS;split at hs
     ·rename_i hx;split at hs
      ·rename_i hy;simp only[av9,Prod.mk.injEq] at hs;obtain⟨rfl,rfl,rfl,rfl,rfl⟩:=hs;exact qo (S:=⟨e,hp,nx⟩) (ys.map enc) ((xs++ys).map enc) (mj ht.h hE) (kV ht.h hS) hp0.1 hp0.2 h1 (bd (yP (S:=⟨e,hp,nx⟩)) hx) ho (by simp[hn]) (bd (yP (S:=⟨e,hp,nx⟩)) hy) hsrc (da enc xs ys) (be8 ..) hb h3 kk
      ·simp at hs
     ·simp at hs
    ·simp at hs
   ·simp at hs
  ·simp at hs
 ·simp at hs
theorem apX{α:Type}{xs ys:List α}{enc:α->List V}{d id n E k bytes:Nat}{sv:V}{o:Oper}{e:cE}{hp:aJ}{nx:Nat}[ht:TC K t](hb:(xs++ys).length*bytes<=140737488355328)(hd:rR K.N ops e o=some d)
  (hs:Re t e o.op=some (.own id n,sv,E,k,bytes)) (ho:ao hp id=.arr E k (xs.map enc)) (hn:xs.length=n) (hsrc:zo ⟨e,hp,nx⟩ k sv (ys.map enc)) (hp0:(Nat.blt 0 bytes&&Nat.blt 0 k)=true)
  (kk:WG K Q (.o ops l::s) ⟨(d,.own nx (xs++ys).length)::e,(nx,.arr E k ((xs++ys).map enc))::(id,.dead)::hp,nx+1⟩):WG K Q (.o ops (o::l)::s) ⟨e,hp,nx⟩:=
 SU (.inl hb) hd hs ho hn hsrc hp0 kk
theorem ov{α:Type}{A:Option R}{xs ys:List α}{d id n id2 n2 E E2 k bytes:Nat}{rows2:List (List V)}{o:Oper}{e:cE}{hp:aJ}{nx:Nat}(enc:α->List V)[i:EI enc][ht:TC K t]
  (h:(if (xs++ys).length*bytes<=140737488355328 then A else none)=some r) (hd:rR K.N ops e o=some d)
  (hs:Re t e o.op=some (.own id n,.own id2 n2,E,k,bytes)) (ho:ao hp id=.arr E k (xs.map enc)) (hn:xs.length=n) (ho2:ao hp id2=.arr E2 k rows2) (hr2:rows2=ys.map enc) (hn2:ys.length=n2) (hp0:(Nat.blt 0 bytes&&Nat.blt 0 k)=true)
  (kk:A=some r->WG K Q (.o ops l::s) ⟨(d,.own nx (xs++ys).length)::e,(nx,.arr E k ((xs++ys).map enc))::(id,.dead)::hp,nx+1⟩):WG K Q (.o ops (o::l)::s) ⟨e,hp,nx⟩:=
 ck h fun hb h=>apX hb hd hs ho hn (.own (by rw[ho2,hr2]) (by simp[hn2]) (Da (aj i.h))) hp0 (kk h)
theorem apL{α:Type}{A:Option R}{xs ys:List α}{d id n E k bytes:Nat}{o:Oper}{e:cE}{hp:aJ}{nx:Nat}(enc:α->List V)[i:EI enc][ht:TC K t]
  (h:(if (xs++ys).length*bytes<=140737488355328 then A else none)=some r) (hd:rR K.N ops e o=some d)
  (hs:Re t e o.op=some (.own id n,.lst k (ys.map enc),E,k,bytes)) (ho:ao hp id=.arr E k (xs.map enc)) (hn:xs.length=n) (hp0:(Nat.blt 0 bytes&&Nat.blt 0 k)=true)
  (kk:A=some r->WG K Q (.o ops l::s) ⟨(d,.own nx (xs++ys).length)::e,(nx,.arr E k ((xs++ys).map enc))::(id,.dead)::hp,nx+1⟩):WG K Q (.o ops (o::l)::s) ⟨e,hp,nx⟩:=
 ck h fun hb h=>apX hb hd hs ho hn (.lst (cX i.o)) hp0 (kk h)
theorem jK{κ α:Type}{b:κ->Option R}{k:κ}{x:Code}(h:jn k b=some r)(T:α->St)(G:κ->α->Prop)(h1:∀k,b k=some r->WG K Q (.c x::.j (Jn K T (G k))::s) S)(h2:∀p,G k p->WG K Q s (T p)):
  WG K Q (.c x::s) S:=jC T (G k) (h1 k h) h2
theorem jP{κ α:Type}{b:κ->Option R}{k:κ}{x:Code}(h:jn k b=some r)(T:α->St)(G:κ->α->Prop)(h1:∀k,b k=some r->∃p,G k p/\bb K S (T p))(h2:∀p,G k p->WG K Q (.c x::s) (T p)):
  WG K Q (.c x::s) S:=by
 obtain⟨p,hp,hg⟩:=h1 k h;exact aP hg (h2 p hp)
theorem jE{α:Type}{T:α->St}{G:α->Prop}(p:α)(h:G p)(hg:bb K S (T p)):∃p,G p/\bb K S (T p):=⟨p,h,hg⟩
theorem jX{α:Type}{T:α->St}{G:α->Prop}(p:α)(h:G p)(hg:bb K S (T p)):WG K Q (.j (Jn K T G)::s) S:=⟨p,h,hg⟩
theorem wE(h:Q .normal S):WG K Q [] S:=h
theorem wR(h:Q .ret S):WG K Q (.c .ret::s) S:=yz (jj h)
def frS:St->Option St
 |⟨e,hp,nx⟩=>(match E7 e with|some e'=>(match E7 hp with|some hp'=>some ⟨e',hp',nx⟩|none=>none)|none=>none)
theorem bs{A B:Option R}{c:Bool}{G:Prop}(h:(if c=true then A else B)=some r)(kt:c=true->A=some r->G)(kf:c=false->B=some r->G):G:=by
 grind
theorem wl{α:Type}{A:List α}{enc:α->List V}{k:Nat}{e:cE}{hp:aJ}{nx:Nat}{x:Code}(n:Nat)(hc:qE e n=some (.lst k (A.map enc)))(h:A.length<=maxLen->WG K Q (.c x::s) ⟨e,hp,nx⟩):WG K Q (.c x::s) ⟨e,hp,nx⟩:=
 K5 n (eu hc) h
theorem RX{α:Type}{A:List α}{enc:α->List V}{k ty:Nat}{e:cE}{hp:aJ}{nx:Nat}{x:Code}(n:Nat)(hc:ao hp n=.arr ty k (A.map enc))(h:A.length<=maxLen->WG K Q (.c x::s) ⟨e,hp,nx⟩):WG K Q (.c x::s) ⟨e,hp,nx⟩:=
 IQ n hc h
def R2:List Operand->List Nat
 |[]=>[]
 | .tmp t::l=>t::R2 l
 |_::l=>R2 l
def Sw:Op->List Operand
 | .move x=>[x]
 | .assign x=>[x]
 | .load _ x=>[x]
 | .nilCheck x=>[x]
 | .unOp _ _ x=>[x]
 | .convert _ _ x=>[x]
 | .fieldAddr _ x _=>[x]
 | .field _ x _=>[x]
 | .extract x _=>[x]
 | .pick a b c=>[a,b,c]
 | .build _ ps=>ps.toList.map (·.2)
 | .store _ a b=>[a,b]
 | .binOp _ _ a b _=>[a,b]
 | .indexAddr _ a b=>[a,b]
 | .index _ a b=>[a,b]
 | .makeFunc _ _ cs=>cs.toList
 | .call c=>(match c.callee with | .value f=>f::c.args.toList|_=>c.args.toList)
 |_=>[]
def grd(ops:Array Oper)(o:Oper)(l:List Nat):Option (List Nat):=
 match o.guard with
 |none=>some l
 |some p=>(match p with|(j,_)=>(match ops[j]? with|some o'=>(match o'.dst with|some t=>some (t::l)|none=>none)|none=>none))
def PI(e:cE):List Nat->Option cE
 |[]=>some []
 |t::l=>(match qE e t with|some v=>(match PI e l with|some r=>some ((t,v)::r)|none=>none)|none=>none)
def Mu(ops:Array Oper)(o:Oper)(e:cE):Option cE:=match grd ops o (R2 (Sw o.op)) with|some l=>PI e l|none=>none
theorem BG{e:cE}:∀{l:List Nat} {re:cE},PI e l=some re->uW e re
 |[],re,h=>by simp[PI] at h;subst h;trivial
 |t::l,re,h=>by
  simp only[PI] at h;split at h
  ·rename_i v hv;split at h
   ·rename_i q hq;simp at h;subst h;exact⟨eu hv,BG hq⟩
   ·simp at h
  ·simp at h
theorem qT{o:Oper}{e re:cE}(h:Mu ops o e=some re):uW e re:=by
 grind [Mu,BG]
theorem dJ{S:St}:∀{re:cE},uW S.env re->Ag re S
 |[],_,t,v,h=>by simp[qE] at h
 |(k,x)::re,hr,t,v,h=>by
  simp only[qE] at h;cases hb:Nat.beq k t with
  |true=>rw[hb] at h;simp at h;subst h;rw[<-cd8 hb];exact hr.1
  |false=>rw[hb] at h;simp at h;exact dJ (S:=S) hr.2 t v h
theorem po{S:St}:∀{rh:aJ},mz S.hp rh->JF rh S
 |[],_,t,v,h=>by simp[rj] at h
 |(k,x)::re,hr,t,v,h=>by
  simp only[rj] at h;cases hb:Nat.beq k t with
  |true=>rw[hb] at h;simp at h;subst h;rw[<-cd8 hb];exact hr.1
  |false=>rw[hb] at h;simp at h;exact po (S:=S) hr.2 t v h
def R7(e:cE)(hp:aJ)(x:Operand):Option aJ:=
 match eX e x with
 |some v=>(match v with | .ptr id _ _ _=>(match rj hp id with|some ob=>some [(id,ob)]|none=>none)|_=>some [])
 |none=>none
def SC(e:cE)(hp:aJ):Op->Option aJ
 | .load _ x=>R7 e hp x
 | .store _ x _=>R7 e hp x
 |_=>some []
theorem N5{e:cE}{hp rh:aJ}{x:Operand}(h:R7 e hp x=some rh):mz hp rh:=by
 unfold R7 at h;split at h
 ·split at h
  ·split at h
   ·rename_i ho;simp at h;subst h;exact⟨gk ho,trivial⟩
   grind
  ·simp at h;subst h;trivial
 grind
theorem N6{e:cE}{hp rh:aJ}{op:Op}(h:SC e hp op=some rh):mz hp rh:=by
 cases op<;>simp only[SC] at h<;>first|exact N5 h|(simp at h;subst h;trivial)
def od(t:TT)(N:Nat)(ops:Array Oper)(o:Oper):St->Option (OD×St)
 |⟨e,hp,nx⟩=>
  match Mu ops o e with
  |none=>none
  |some re=>(match wt ops re o.guard with
   |none=>none
   |some b=>(match b with
    |false=>(match o.dst with|some d=>(match Nat.blt d N with|true=>some (⟨re,[],[(d,.con undef)],[]⟩,⟨(d,.con undef)::e,hp,nx⟩)|false=>none)|none=>none)
    |true=>(match SC re hp o.op with
     |none=>none
     |some rh=>(match o.dst with
      |some d=>(match Nat.blt d N with
       |false=>none
       |true=>(match val t re rh o.op with|some v=>some (⟨re,rh,[(d,v)],[]⟩,⟨(d,v)::e,hp,nx⟩)|none=>none))
      |none=>(match R3 t re rh o.op with|some p=>(match p with|(id,ob)=>some (⟨re,rh,[],[(id,ob)]⟩,⟨e,(id,ob)::hp,nx⟩))|none=>none)))))
theorem Mx(ht:dm K.P t){o:Oper}{D:OD}{nx:Nat}(h:od t K.N ops o S=some (D,S')):A2 K nx ops o D/\uW S.env D.re/\mz S.hp D.rh/\S'=S.upd D:=by
 obtain⟨e,hp,nx'⟩:=S;simp only[od] at h;split at h
 ·simp at h
 ·rename_i re hre;have hre':=qT hre;split at h
  ·simp at h
  ·rename_i b hw;split at h
   ·split at h
    ·rename_i d hd;split at h
     ·rename_i hN;simp at h;obtain⟨rfl,rfl⟩:=h;exact⟨fun S2 hn h1 h2=>ry (jL (dJ h1) hw) hd hN (aF ⟨Y,Y⟩),hre',trivial,Y⟩
     grind
    grind
   ·split at h
    ·simp at h
    ·rename_i rh hrh;have hrh':=N6 hrh;obtain⟨dst,op,ty,pos,after,g⟩:=o;cases dst with
     |some d=>
      simp only at h;split at h
      ·simp at h
      ·rename_i hN;split at h
       ·rename_i v hv;simp at h;obtain⟨rfl,rfl⟩:=h;exact⟨fun S2 hn h1 h2=>Br ht (dJ h1) (po h2) hv (jL (dJ h1) hw) hN (aF ⟨Y,Y⟩),hre',hrh',Y⟩
       grind
     |none=>
      simp only at h;split at h
      ·rename_i hv;simp at h;obtain⟨rfl,rfl⟩:=h;exact⟨fun S2 hn h1 h2=>GO ht (dJ h1) (po h2) hv (jL (dJ h1) hw) (aF ⟨Y,Y⟩),hre',hrh',Y⟩
      grind
inductive Dr(K:dE)(A:aJ->Prop)(nx:Nat)(ops:Array Oper):List Oper->St->List OD->St->Prop
 |nil {S:St}:Dr K A nx ops [] S [] S
 |cons {o:Oper} {os:List Oper} {S S' E:St} {D:OD} {ds:List OD} (h1:uW S.env D.re) (h2:mz S.hp D.rh) (h:yT K A nx ops o D) (hS:S'=S.upd D) (r:Dr K A nx ops os S' ds E):Dr K A nx ops (o::os) S (D::ds) E
theorem Dr.fin{A:aJ->Prop}{nx:Nat}{os:List Oper}{E:St}{ds:List OD}(h:Dr K A nx ops os S ds E):qz S ds/\(∀(i:Nat) (o:Oper) (D:OD),os[i]? = some o->ds[i]? = some D->yT K A nx ops o D)/\iA S ds=E:=by
 induction h with
 |nil=>exact⟨trivial,fun i o D h=>by simp at h,rfl⟩
 |cons h1 h2 h hS r ih=>
  subst hS;refine⟨⟨h1,h2,ih.1⟩,fun i o D a b=>?_,ih.2.2⟩
  grind
theorem dr{rid nx:Nat}{l:List Oper}{e:cE}{hp:aJ}{ds:List OD}{E:St}(hm:K.P.follows .mixedOrders=true)(h:Dr K (fun _=>True) nx l.toArray l ⟨e,hp,nx⟩ ds E)(hok:rY l ds=true)(k:WG K Q s E):
  WG K Q (.c (.region rid l.toArray true)::s) ⟨e,hp,nx⟩:=by
 obtain⟨h1,h2,h3⟩:=h.fin;exact mi ds hm h1 hok (fun _=>trivial) h2 (by rw[h3];exact k)
def R4(t:TT)(N:Nat)(ops:Array Oper):Nat->List Oper->St->Option (List OD×List Oper×St)
 |0,l,S=>some ([],l,S)
 |n+1,l,S=>(match l with
  |[]=>none
  |o::l=>(match od t N ops o S with
   |some (D,S')=>(match R4 t N ops n l S' with|some (ds,l',S2)=>some (D::ds,l',S2)|none=>none)
   |none=>none))
theorem vs{A:aJ->Prop}[ht:TC K t]{nx:Nat}{E:St}{ds':List OD}:∀(n:Nat) {os os':List Oper} {S S':St} {ds:List OD},R4 t K.N ops n os S=some (ds,os',S')->Dr K A nx ops os' S' ds' E->Dr K A nx ops os S (ds++ds') E
 |0,os,os',S,S',ds,h,r=>by simp_all[R4]
 |n+1,os,os',S,S',ds,h,r=>by
  simp only[R4] at h;split at h
  ·simp at h
  ·split at h
   ·rename_i hod;split at h
    ·rename_i hR;simp at h;obtain⟨rfl,rfl,rfl⟩:=h;obtain⟨a1,a2,a3,a4⟩:=Mx (nx:=nx) ht.h hod;exact .cons a2 a3 (fun S hn _=>a1 S hn) a4 (vs n hR r)
    ·simp at h
   ·simp at h
section
variable{A:aJ->Prop}{o:Oper}{os:List Oper}{e re:cE}{hp rh:aJ}{nx n' d:Nat}{ds:List OD}{E:St}
theorem vb{c b:Bool}{X:St}[ht:TC K t](hb:c=b)(h:od t K.N ops o ⟨e,hp,nx⟩=some (⟨re,rh,[(d,.con (.bool c))],[]⟩,X))(r:Dr K A n' ops os ⟨(d,.con (.bool b))::e,hp,nx⟩ ds E):
  Dr K A n' ops (o::os) ⟨e,hp,nx⟩ (⟨re,rh,[(d,.con (.bool b))],[]⟩::ds) E:=by
 subst hb;obtain⟨a1,a2,a3,a4⟩:=Mx (nx:=n') ht.h h;exact .cons a2 a3 (fun S hn _=>a1 S hn) Y r
theorem cD{f:Nat}{avs avs0:List V}{res:V}[ht:TC K t](hre:Mu ops o e=some re)(hd:rR K.N ops re o=some d)(hs:Ov re o.op=some (f,avs0))(hF:dV t f TF.qFn=some ())(hW:ek K.gl K.P f avs res)
  (hz:kY (tR [] 8) avs avs0=some avs) (r:Dr K A n' ops os ⟨(d,res)::e,hp,nx⟩ ds E):Dr K A n' ops (o::os) ⟨e,hp,nx⟩ (⟨re,[],[(d,res)],[]⟩::ds) E:=
 .cons (qT hre) trivial (fun _ _ _ h1 _=>clA ht.h hd hs hF hW hz (dJ h1) (aF ⟨rfl,rfl⟩)) rfl r
variable{α:Type}{a:List α}{i:Int}{y:α}{enc:α->List V}{k:Nat}
theorem iD[ht:TC K t](hx:cH a i=some y)(hre:Mu ops o e=some re)(hd:rR K.N ops re o=some d)(hs:JI t re o.op=some (.lst k (a.map enc),i,k))
  (r:Dr K A n' ops os ⟨(d,.iptr (enc y) 0)::e,hp,nx⟩ ds E):Dr K A n' ops (o::os) ⟨e,hp,nx⟩ (⟨re,[],[(d,.iptr (enc y) 0)],[]⟩::ds) E:=
 .cons (qT hre) trivial (fun _ _ _ h1 _=>QC ht.h hx hd hs (dJ h1) (aF ⟨rfl,rfl⟩)) rfl r
theorem oD{id len:Nat}[ht:TC K t](hx:cH a i=some y)(hre:Mu ops o e=some re)(hd:rR K.N ops re o=some d)(hs:JI t re o.op=some (.own id len,i,k))(hl:len=a.length)
  (r:Dr K A n' ops os ⟨(d,.ptr id k i.toNat 0)::e,hp,nx⟩ ds E):Dr K A n' ops (o::os) ⟨e,hp,nx⟩ (⟨re,[],[(d,.ptr id k i.toNat 0)],[]⟩::ds) E:=
 .cons (qT hre) trivial (fun _ _ _ h1 _=>MA ht.h hx hd hs hl (dJ h1) (aF ⟨rfl,rfl⟩)) rfl r
theorem lD{id ty off T:Nat}{v:V}[ht:TC K t](hx:cH a i=some y)(hre:Mu ops o e=some re)(hd:rR K.N ops re o=some d)(hs:R6 re o.op=some (.ptr id k i.toNat off,T))(ho:rj hp id=some (.arr ty k (a.map enc)))
  (hv:EQ t T (enc y) off=some v) (r:Dr K A n' ops os ⟨(d,v)::e,hp,nx⟩ ds E):Dr K A n' ops (o::os) ⟨e,hp,nx⟩ (⟨re,[(id,.arr ty k (a.map enc))],[(d,v)],[]⟩::ds) E:=
 .cons (qT hre) ⟨gk ho,trivial⟩ (fun _ _ _ h1 h2=>Qz ht.h hx hd hs h2.1 hv (dJ h1) (aF ⟨rfl,rfl⟩)) rfl r
theorem nD[ht:TC K t](hre:Mu ops o e=some re)(hd:rR K.N ops re o=some d)(hs:R5 t re o.op=some (.lst k (a.map enc)))
  (r:Dr K A n' ops os ⟨(d,iV a.length)::e,hp,nx⟩ ds E):Dr K A n' ops (o::os) ⟨e,hp,nx⟩ (⟨re,[],[(d,iV a.length)],[]⟩::ds) E:=
 .cons (qT hre) trivial (fun _ _ _ h1 _=>lnA ht.h hd hs (dJ h1) (aF ⟨rfl,rfl⟩)) rfl r
theorem xD(D:OD){S':St}(hl:uW e D.re/\mz hp D.rh)(h:∀S,S.nx=n'->uW S.env D.re->mz S.hp D.rh->aD K ops [o] (fun e T=>e=.normal/\T=S.upd D) S)
  (hS:frS (St.upd ⟨e,hp,nx⟩ D)=some S') (r:Dr K A n' ops os S' ds E):Dr K A n' ops (o::os) ⟨e,hp,nx⟩ (D::ds) E:=
 .cons hl.1 hl.2 (fun S hn _=>h S hn) (by
  grind [frS,St.upd,kg]) r
end
end
end Go.Pv
