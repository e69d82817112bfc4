/- Part of the proof. -/
import Derived.Test.YtppfkkkifdbnaaaGreatDoorVPvW
set_option linter.unusedSimpArgs false
set_option linter.unusedVariables false
namespace Go.Pv
open Go
def zipO(f:V->V->Option V):List V->List V->Option (List V)
 |[],l=>(match l with|[]=>some []|_=>none)
 |a::al,l=>(match l with|b::bs=>(match f a b with|some r=>(match zipO f al bs with|some q=>some (r::q)|none=>none)|none=>none)|[]=>none)
def nrm(σ:List Nat):Nat->V->V->Option V
 |0,_,_=>none
 |n+1,tv,v=>
  match tv with
  | .any=>some .any
  | .con _=>(match v with | .con x=>some (.con x)|_=>none)
  | .lst k _=>(match v with
   | .lst k' r=>some (.lst k' r)
   | .con x=>(match x with | .slice none 0 0=>some (.lst k [])|_=>none)
   |_=>none)
  | .iptr _ _=>(match v with | .iptr r o=>some (.iptr r o)|_=>none)
  | .imap _=>(match v with | .imap e=>some (.imap e)|_=>none)
  | .ifc _ _=>(match v with | .ifc T d=>some (.ifc T d)|_=>none)
  | .agg ts=>(match v with | .agg vs=>(match zipO (nrm σ n) ts vs with|some r=>some (.agg r)|none=>none)|_=>none)
  | .tup ts=>(match v with | .tup vs=>(match zipO (nrm σ n) ts vs with|some r=>some (.tup r)|none=>none)|_=>none)
  | .fn _ a b=>(match v with
   | .fn f a' b'=>(match zipO (nrm σ n) a a' with|some ra=>(match zipO (nrm σ n) b b' with|some rb=>some (.fn f ra rb)|none=>none)|none=>none)
   |_=>none)
  | .ptr id _ _ _=>(match v with | .ptr j k i o=>(match lgt σ id with|some j'=>(match Nat.beq j' j with|true=>some (.ptr id k i o)|false=>none)|none=>none)|_=>none)
  | .own id _=>(match v with | .own j m=>(match lgt σ id with|some j'=>(match Nat.beq j' j with|true=>some (.own id m)|false=>none)|none=>none)|_=>none)
  | .map id=>(match v with | .map j=>(match lgt σ id with|some j'=>(match Nat.beq j' j with|true=>some (.map id)|false=>none)|none=>none)|_=>none)
  | .adr id=>(match v with
   | .adr j=>(match lgt σ id with|some j'=>(match Nat.beq j' j with|true=>some (.adr id)|false=>none)|none=>none)
   | .ptr j _ 0 0=>(match lgt σ id with|some j'=>(match Nat.beq j' j with|true=>some (.adr id)|false=>none)|none=>none)
   | .con x=>(match x with | .pointer none=>(match lgt σ id with|some _=>some (.adr id)|none=>none)|_=>none)
   |_=>none)
  | .dsl _ _ _=>(match v with | .dsl e k r=>(match σ with|[]=>none|_::_=>some (.dsl e k r))|_=>none)
  | .dmp _=>(match v with | .dmp e=>(match σ with|[]=>none|_::_=>some (.dmp e))|_=>none)
  | .dpt _ _=>(match v with | .dpt e r=>(match σ with|[]=>none|_::_=>some (.dpt e r))|_=>none)
  | .plc _ _=>(match v with | .plc v0 d=>(match σ with|[]=>none|_::_=>some (.plc v0 d))|_=>none)
def sg(σ:List Nat):Nat->Nat:=fun i=>σ.getD i 0
theorem sg_lgt{σ:List Nat}{i j:Nat}(h:lgt σ i=some j):Nat.blt i σ.length=true/\sg σ i=j:=by
 have h:=lgt_ok h
 have h2:=(aw8.1 h).1
 simp_all[sg]
theorem zipO_sub{Y:Hy}{f:V->V->Option V}(hf:∀a b r,f a b=some r->Sub Y r b):∀{al bs r:List V},zipO f al bs=some r->Subs Y r bs
 |[],bs,r,h=>by
  simp only[zipO] at h
  split at h
  ·simp at h;subst h;exact .nil
  grind
 |a::al,bs,r,h=>by
  simp only[zipO] at h
  split at h
  ·split at h
   ·rename_i q hq
    split at h
    ·rename_i p hp;simp at h;subst h;exact .cons (hf _ _ _ hq) (zipO_sub hf hp)
    ·simp at h
   ·simp at h
  ·simp at h
theorem Sub.tupS{Y:Hy}{l l':List V}(h:Subs Y l l')(hi:∀m β m' β' v v' x,Y m β m' β'->Sub Y v v'->IRel m v' x->VRel m' β' v x):Sub Y (.tup l) (.tup l'):=by
 intro m β m' β' x hy hx
 cases hx with
 |imm hx=>cases hx with
  |tup hl hh=>
   refine .tup (h.len.trans hl) (fun i c v hc hv=>?_)
   obtain⟨c',hc'⟩:∃c',l'[i]? = some c':=⟨l'[i]'(by grind),by simp⟩
   exact hi m β m' β' c c' v hy (h.get i c c' hc hc') (hh i c' v hc' hv)
 |tup hl hh=>
  refine .tup (h.len.trans hl) (fun i c v hc hv=>?_)
  obtain⟨c',hc'⟩:∃c',l'[i]? = some c':=⟨l'[i]'(by grind),by simp⟩
  exact h.get i c c' hc hc' m β m' β' v hy (hh i c' v hc' hv)
theorem Sub.fnS{Y:Hy}{f:Fn}{l l' k k':List V}(h:Subs Y l l')(h2:Subs Y k k'):Sub Y (.fn f l k) (.fn f l' k'):=by
 intro m β m' β' x hy hx
 have key:∀{l l':List V},Subs Y l l'->∀(fs:Array Value),l'.length=fs.size->(∀(i:Nat) (c:V) (v:Value),l'[i]? = some c->fs[i]? = some v->VRel m β c v)->
   l.length=fs.size/\∀(i:Nat) (c:V) (v:Value),l[i]? = some c->fs[i]? = some v->VRel m' β' c v:=by
  intro l l' h fs hl hh
  refine⟨h.len.trans hl,fun i c v hc hv=>?_⟩
  obtain⟨c',hc'⟩:∃c',l'[i]? = some c':=⟨l'[i]'(by grind),by simp⟩
  exact h.get i c c' hc hc' m β m' β' v hy (hh i c' v hc' hv)
 cases hx with
 |imm hx=>cases hx with
  |fn h3 h4 h5 h6=>
   obtain⟨a1,a2⟩:=key h _ h3 (fun i c v hc hv=>.imm (h5 i c v hc hv))
   obtain⟨b1,b2⟩:=key h2 _ h4 (fun i c v hc hv=>.imm (h6 i c v hc hv))
   exact .fn a1 b1 a2 b2
 |fn h3 h4 h5 h6=>
  obtain⟨a1,a2⟩:=key h _ h3 h5
  obtain⟨b1,b2⟩:=key h2 _ h4 h6
  exact .fn a1 b1 a2 b2
theorem Sub.adr{n id j:Nat}{σ:Nat->Nat}(hn:Nat.blt id n=true)(hj:σ id=j):Sub (Ren n σ) (.adr id) (.adr j):=fun m β m' β' x hy hx=>by
 have h:=hy.2 id (ar9 hn)
 rw[hj] at h
 cases hx with
 |imm h=>cases h
 |adrNil=>exact .adrNil
 |adr hb=>exact .adr (by grind)
theorem Sub.adrPtr{n id j k:Nat}{σ:Nat->Nat}(hn:Nat.blt id n=true)(hj:σ id=j):Sub (Ren n σ) (.adr id) (.ptr j k 0 0):=fun m β m' β' x hy hx=>by
 have h:=hy.2 id (ar9 hn)
 rw[hj] at h
 cases hx with
 |imm h=>cases h
 |ptr hb=>have:=VRel.adr (m:=m') (β:=β') (id:=id) (by rw[h];exact hb);grind
theorem Sub.adrNil{Y:Hy}{id:Nat}:Sub Y (.adr id) (.con (.pointer none)):=fun m β m' β' x _ hx=>by
 rw[hx.of_con];exact .adrNil
theorem nrm_sub{σ:List Nat}:∀(n:Nat) (tv v r:V),nrm σ n tv v=some r->Sub (Ren σ.length (sg σ)) r v
 |0,_,_,_,h=>by simp[nrm] at h
 |n+1,tv,v,r,h=>by
  have im:∀{v:V},Imm v->Sub (Ren σ.length (sg σ)) v v:=fun h=>Sub.imm h
  simp only[nrm] at h
  split at h
  ·simp at h;subst h;exact Sub.any
  ·split at h
   ·simp at h;subst h;exact im (Imm.con _)
   ·simp at h
  ·split at h
   ·simp at h;subst h;exact im (Imm.lst _ _)
   ·split at h
    ·simp at h;subst h;exact Sub.nil _
    ·simp at h
   ·simp at h
  ·split at h
   ·simp at h;subst h;exact im (Imm.iptr _ _)
   ·simp at h
  ·split at h
   ·simp at h;subst h;exact im (Imm.imap _)
   ·simp at h
  ·split at h
   ·simp at h;subst h;exact im (Imm.ifc _ _)
   ·simp at h
  ·split at h
   ·split at h
    ·rename_i q hq;simp at h;subst h;exact Sub.agg (zipO_sub (nrm_sub n) hq)
    ·simp at h
   ·simp at h
  ·split at h
   ·split at h
    ·rename_i q hq;simp at h;subst h
     exact Sub.tupS (zipO_sub (nrm_sub n) hq) (fun m β m' β' v v' x hy hs hv=>hs m β m' β' x hy (.imm hv))
    ·simp at h
   ·simp at h
  ·split at h
   ·split at h
    ·rename_i q hq
     split at h
     ·rename_i p hp;simp at h;subst h;exact Sub.fnS (zipO_sub (nrm_sub n) hq) (zipO_sub (nrm_sub n) hp)
     ·simp at h
    ·simp at h
   ·simp at h
  ·split at h
   ·split at h
    ·rename_i j' hj
     split at h
     ·rename_i hb;simp at h;subst h
      obtain⟨h1,h2⟩:=sg_lgt hj
      exact Sub.ptr h1 (h2.trans (bw8 hb))
     ·simp at h
    ·simp at h
   ·simp at h
  ·split at h
   ·split at h
    ·rename_i j' hj
     split at h
     ·rename_i hb;simp at h;subst h
      obtain⟨h1,h2⟩:=sg_lgt hj
      exact Sub.own h1 (h2.trans (bw8 hb))
     ·simp at h
    ·simp at h
   ·simp at h
  ·split at h
   ·split at h
    ·rename_i j' hj
     split at h
     ·rename_i hb;simp at h;subst h
      obtain⟨h1,h2⟩:=sg_lgt hj
      exact Sub.map h1 (h2.trans (bw8 hb))
     ·simp at h
    ·simp at h
   ·simp at h
  ·split at h
   ·split at h
    ·rename_i j' hj
     split at h
     ·rename_i hb;simp at h;subst h
      obtain⟨h1,h2⟩:=sg_lgt hj
      exact Sub.adr h1 (h2.trans (bw8 hb))
     ·simp at h
    ·simp at h
   ·split at h
    ·rename_i j' hj
     split at h
     ·rename_i hb;simp at h;subst h
      obtain⟨h1,h2⟩:=sg_lgt hj
      exact Sub.adrPtr h1 (h2.trans (bw8 hb))
     ·simp at h
    ·simp at h
   ·split at h
    ·split at h
     ·simp at h;subst h;exact Sub.adrNil
     ·simp at h
    ·simp at h
   ·simp at h
  ·split at h
   ·split at h
    ·simp at h
    ·simp at h;subst h;exact Sub.kp (Keep.dsl _ _ _)
   ·simp at h
  ·split at h
   ·split at h
    ·simp at h
    ·simp at h;subst h;exact Sub.kp (Keep.dmp _)
   ·simp at h
  ·split at h
   ·split at h
    ·simp at h
    ·simp at h;subst h;exact Sub.kp (Keep.dpt _ _)
   ·simp at h
  ·split at h
   ·split at h
    ·simp at h
    ·simp at h;subst h;exact Sub.kp (Keep.plc _ _)
   ·simp at h
theorem CSub.any{Y:Hy}{v:V}:CSub Y .any v:=fun _ _ _ _ _ _ _ _ _=>.inl (.imm (.any _))
theorem nrm_deep{σ:List Nat}{n:Nat}{tv v r:V}(h:nrm σ n tv v=some r)(hd:v.deep=true):r=.any\/r=v/\Keep v:=by
 cases n with
 |zero=>simp[nrm] at h
 |succ n=>
  cases σ<;>cases v<;>simp[V.deep] at hd<;>cases tv<;>simp[nrm] at h<;>subst h<;>first|exact .inl rfl|exact .inr ⟨rfl,Keep.dsl _ _ _⟩|exact .inr ⟨rfl,Keep.dmp _⟩|exact .inr ⟨rfl,Keep.dpt _ _⟩|exact .inr ⟨rfl,Keep.plc _ _⟩
theorem nrm_csub{σ:List Nat}{n:Nat}{tv v r:V}(h:nrm σ n tv v=some r):CSub (Ren σ.length (sg σ)) r v:=by
 cases hd:v.deep with
 |false=>exact .sub (nrm_sub n tv v r h) hd
 |true=>
  rcases nrm_deep h hd with rfl|⟨rfl,hk⟩
  ·exact CSub.any
  ·exact .same HyMC.h (Sub.kp hk)
theorem zipO_csub{Y:Hy}{f:V->V->Option V}(hf:∀a b r,f a b=some r->CSub Y r b):∀{al bs r:List V},zipO f al bs=some r->r.length=bs.length/\∀(j:Nat) c c',r[j]? = some c->bs[j]? = some c'->CSub Y c c'
 |[],bs,r,h=>by
  grind [zipO]
 |a::al,bs,r,h=>by
  simp only[zipO] at h
  split at h
  ·split at h
   ·rename_i q hq
    split at h
    ·rename_i p hp
     simp at h;subst h
     obtain⟨h1,h2⟩:=zipO_csub hf hp<;>grind
    grind
   grind
  grind
theorem zipO_imms{f:V->V->Option V}(hf:∀a b r,f a b=some r->Imm r):∀{al bs r:List V},zipO f al bs=some r->Imms r
 |[],bs,r,h=>by
  simp only[zipO] at h
  split at h
  ·simp at h;subst h;exact .nil
  grind
 |a::al,bs,r,h=>by
  simp only[zipO] at h
  split at h
  ·split at h
   ·rename_i q hq
    split at h
    ·rename_i p hp;simp at h;subst h;exact .cons (hf _ _ _ hq) (zipO_imms hf hp)
    ·simp at h
   ·simp at h
  ·simp at h
theorem nrm_imm:∀(n:Nat) (tv v r:V),nrm [] n tv v=some r->Imm r
 |0,_,_,_,h=>by simp[nrm] at h
 |n+1,tv,v,r,h=>by
  simp only[nrm] at h
  split at h
  ·simp at h;subst h;exact Imm.any
  ·split at h
   ·simp at h;subst h;exact Imm.con _
   ·simp at h
  ·split at h
   ·simp at h;subst h;exact Imm.lst _ _
   ·split at h
    ·simp at h;subst h;exact Imm.lst _ _
    ·simp at h
   ·simp at h
  ·split at h
   ·simp at h;subst h;exact Imm.iptr _ _
   ·simp at h
  ·split at h
   ·simp at h;subst h;exact Imm.imap _
   ·simp at h
  ·split at h
   ·simp at h;subst h;exact Imm.ifc _ _
   ·simp at h
  ·split at h
   ·split at h
    ·rename_i q hq;simp at h;subst h;exact Imm.agg (zipO_imms (nrm_imm n) hq)
    ·simp at h
   ·simp at h
  ·split at h
   ·split at h
    ·rename_i q hq;simp at h;subst h;exact Imm.tup (zipO_imms (nrm_imm n) hq)
    ·simp at h
   ·simp at h
  ·split at h
   ·split at h
    ·rename_i q hq
     split at h
     ·rename_i p hp;simp at h;subst h;exact Imm.fn (zipO_imms (nrm_imm n) hq) (zipO_imms (nrm_imm n) hp)
     ·simp at h
    ·simp at h
   ·simp at h
  all_goals
   split at h
   all_goals first
    |(simp[lgt] at h;done)
    |(simp at h;done)
    |(split at h<;>simp[lgt] at h;done)
theorem nrm_nsub{n:Nat}{tv v r:V}(h:nrm [] n tv v=some r):NSub r v:=fun m β x hx=>
 (nrm_imm n tv v r h).2 m β x (nrm_sub n tv v r h m β m β x ⟨rfl,fun id hid=>by simp at hid⟩ hx)
theorem zipO_nsub{n:Nat}:∀{al bs r:List V},zipO (nrm [] n) al bs=some r->r.length=bs.length/\∀(i:Nat) c c',r[i]? = some c->bs[i]? = some c'->NSub c c':=by
 intro al bs r h
 have h1:=zipO_sub (Y:=Ren 0 (sg [])) (nrm_sub n) h
 refine⟨h1.len,fun i c c' hc hc' m β x hx=>?_⟩
 exact((zipO_imms (nrm_imm n) h).get hc).2 m β x (h1.get i c c' hc hc' m β m β x ⟨rfl,fun id hid=>by simp at hid⟩ hx)
section
variable{K:Ctx}{Q:Post}{S S':St}{s s':List It}{ops:Array Oper}{l:List Oper}{t:TT}
def nrE(σ:List Nat)(e:Env):Env->Option Env
 |[]=>some []
 |(k,tv)::r=>(match gtC e k with|some v=>(match nrm σ 8 tv v with|some v'=>(match nrE σ e r with|some q=>some ((k,v')::q)|none=>none)|none=>none)|none=>none)
theorem nrE_ok{σ:List Nat}{e:Env}:∀{T r:Env},nrE σ e T=some r->EnvSub (Ren σ.length (sg σ)) e r
 |[],r,h=>by simp[nrE] at h;subst h;exact .nil
 |(k,tv)::T,r,h=>by
  simp only[nrE] at h
  split at h
  ·rename_i v hv
   split at h
   ·rename_i v' hv'
    split at h
    ·rename_i q hq;simp at h;subst h
     exact .cons (by rw[gtC_ok hv];exact nrm_sub _ _ _ _ hv') (nrE_ok hq)
    ·simp at h
   ·simp at h
  ·simp at h
def notin(x:Nat):List Nat->Bool
 |[]=>true
 |y::l=>bif Nat.beq x y then false else notin x l
def nodup:List Nat->Bool
 |[]=>true
 |x::l=>bif notin x l then nodup l else false
theorem notin_ok{x:Nat}:∀{l:List Nat},notin x l=true->x ∉ l
 |[],_=>by simp
 |y::l,h=>by
  simp only[notin] at h
  cases hb:Nat.beq x y with
  |true=>rw[hb] at h;simp at h
  |false=>
   rw[hb] at h;simp at h
   simp[Nat.ne_of_beq_eq_false hb,notin_ok h]
theorem nodup_ok:∀{l:List Nat},nodup l=true->∀i,i<l.length->∀j,j<l.length->sg l i=sg l j->i=j
 |[],_,i,hi,_,_,_=>by simp at hi
 |x::l,h,i,hi,j,hj,e=>by
  simp only[nodup] at h
  cases hb:notin x l with
  |false=>rw[hb] at h;simp at h
  |true=>
   rw[hb] at h;simp at h
   have hx:=notin_ok hb
   have mem:∀q,q<l.length->sg l q∈l:=by
    intro q hq;simp[sg,ca9,as8 hq]
   cases i with
   |zero=>cases j with
    |zero=>rfl
    |succ j=>
     have:x=sg l j:=by simpa[sg] using e
     exact absurd (this ▸ mem j (by simpa using hj)) hx
   |succ i=>cases j with
    |zero=>
     have:sg l i=x:=by simpa[sg] using e
     exact absurd (this ▸ mem i (by simpa using hi)) hx
    |succ j=>rw[nodup_ok h i (by simpa using hi) j (by simpa using hj) (by simpa[sg] using e)]
class RI (rows:List (List V)):Prop where
 h:∀row,row∈rows->Imms row
class EI {α:Type} (enc:α->List V):Prop where
 h:∀x,Imms (enc x)
 o:∀x,(enc x).all oneV=true
class EM {α:Type} (enc:α->Value×V):Prop where
 h:∀x,Imm (enc x).2
class RK (rows:List (List V)):Prop where
 h:∀row,row∈rows->Keeps row
class EK {α:Type} (enc:α->List V):Prop where
 h:∀x,Keeps (enc x)
class EMK {α:Type} (enc:α->Value×V):Prop where
 h:∀x,Keep (enc x).2
instance {α:Type} {enc:α->List V} [i:EI enc] {a:List α}:RI (a.map enc):=⟨rows_imm i.h⟩
instance:RI []:=⟨by simp⟩
theorem nd_rows{rows:List (List V)}(h:∀row,row∈rows->Imms row):∀row,row∈rows->∀c,c∈row->c.deep=false:=fun row hr c hc=>(h row hr c hc).1
instance {rows:List (List V)} [i:RI rows]:RK rows:=⟨fun row hr=>(i.h row hr).keep⟩
instance {α:Type} {enc:α->List V} [i:EK enc] {a:List α}:RK (a.map enc):=⟨fun row hr=>by obtain⟨x,_,rfl⟩:=ax9.1 hr;exact i.h x⟩
instance {α:Type} {enc:α->Value×V} [i:EM enc]:EMK enc:=⟨fun x=>(i.h x).2⟩
abbrev HS(σ:List Nat):=HpSub (Ren σ.length (sg σ)) σ.length (sg σ)
theorem hR{σ:List Nat}{hp T:Heap}{id e k:Nat}{rows:List (List V)}[i:RK rows](hn:Nat.blt id σ.length=true)(h:hget hp (sg σ id)=.arr e k rows)(r:HS σ hp T):
  HS σ hp ((id,.arr e k rows)::T):=.cons hn (by rw[h];exact ObSub.rowsK i.h) r
theorem hD{σ:List Nat}{hp T:Heap}{id:Nat}(hn:Nat.blt id σ.length=true)(r:HS σ hp T):HS σ hp ((id,.dead)::T):=.cons hn (by simp[ObSub]) r
theorem hM{α:Type}{enc:α->Value×V}[i:EMK enc]{σ:List Nat}{hp T:Heap}{id:Nat}{es:List α}(hn:Nat.blt id σ.length=true)(h:hget hp (sg σ id)=.map (es.map enc))(r:HS σ hp T):
  HS σ hp ((id,.map (es.map enc))::T):=.cons hn (by
   rw[h];refine ObSub.mapsK (fun p hp=>?_)
   obtain⟨x,_,rfl⟩:=ax9.1 hp;exact i.h x) r
theorem hI{σ:List Nat}{hp T:Heap}{id:Nat}{c l:List (Value×V)}(hn:Nat.blt id σ.length=true)(h:hget hp (sg σ id)=.iter c l)(r:HS σ hp T):HS σ hp ((id,.iter [] l)::T):=
 .cons hn (by rw[h];exact⟨by simp,rfl,HyMC.h⟩) r
theorem hB{σ:List Nat}{hp T:Heap}{id e k:Nat}{row row':List V}(hn:Nat.blt id σ.length=true)(h:hget hp (sg σ id)=.arr e k [row'])(hz:zipO (nrm σ 8) row row'=some row)(r:HS σ hp T):
  HS σ hp ((id,.arr e k [row])::T):=.cons hn (by rw[h];exact ObSub.boxC (zipO_csub (fun _ _ _ h=>nrm_csub h) hz).1 (zipO_csub (fun _ _ _ h=>nrm_csub h) hz).2) r
def pinsB(σ:List Nat):Nat->Bool
 |0=>true
 |q+1=>match lgt σ q with|some j=>(match Nat.beq j q with|true=>pinsB σ q|false=>false)|none=>false
theorem pinsB_ok{σ:List Nat}:∀{p:Nat},pinsB σ p=true->pinsOk σ.length (sg σ) p=true
 |0,_=>rfl
 |q+1,h=>by
  simp only[pinsB] at h
  split at h
  ·rename_i j hj
   split at h
   ·rename_i hb
    obtain⟨h1,h2⟩:=sg_lgt hj
    simp only[pinsOk,h1,h2,hb,pinsB_ok h,Bool.and_self]
   ·simp at h
  ·simp at h
theorem gr{e env:Env}{hp T:Heap}{nx n:Nat}(σ:List Nat)(he:nrE σ e env=some env)(hh:HS σ hp T)(hc:(nodup σ&&(lenIs n σ&&pinsB σ K.pins))=true):Ghost K ⟨e,hp,nx⟩ ⟨env,T,n⟩:=by
 simp only[al9] at hc
 have hl:=lenIs_ok hc.2.1
 subst hl
 exact ghost_ren σ.length (sg σ) _ _ (nodup_ok hc.1) (nrE_ok he).get hh.get (pinsB_ok hc.2.2)
theorem g0{e env:Env}{hp:Heap}{nx:Nat}(he:nrE [] e env=some env)(hc:pinsB [] K.pins=true):Ghost K ⟨e,hp,nx⟩ ⟨env,[],0⟩:=gr [] he .nil (by simp[nodup,lenIs,hc])
def rsv(t:TT)(e:Env)(hp:Heap):ResultVar->Option V
 | .tmp x=>gtC e x
 | .cell x T=>(match gtC e x with
  |some (.ptr id k i o)=>(match hgC hp id with
   |some (.arr _ k2 rows)=>(match Nat.beq k k2 with|true=>(match lgt rows i with|some row=>ldV t T row o|none=>none)|false=>none)
   |_=>none)
  |_=>none)
theorem rsv_ok(ht:TTok K.P t){rv:ResultVar}{v d:V}(h:rsv t S.env S.hp rv=some v)(hd:nrm [] 8 d v=some d):ResOne K.P S rv d:=by
 have hi:=nrm_nsub hd
 cases rv with
 |tmp x=>exact .tmp (gtC_ok h) hi
 |cell x T=>
  simp only[rsv] at h
  split at h
  ·rename_i hx
   split at h
   ·rename_i ho
    split at h
    ·rename_i hk
     have hk:=bw8 hk
     subst hk
     split at h
     ·rename_i row hr
      cases hn:ask t T TF.qA with
      |some n=>
       obtain⟨cs,rfl,hc,hdd⟩:=ldV_agg hn h
       exact .agg (askA ht hn) (gtC_ok hx) (hgC_ok ho) (lgt_ok hr) (cut_ok hc).1 (cut_ok hc).2 hdd hi
      |none=>
       obtain⟨hq,hc,hdd⟩:=ldV_cell hn h
       exact .cell (askC ht hq) (gtC_ok hx) (hgC_ok ho) (lgt_ok hr) (lgt_ok hc) hdd hi
     grind
    grind
   grind
  grind
def rs1(t:TT)(S:St)(rv:ResultVar)(d:V):Option V:=match rsv t S.env S.hp rv with|some v=>nrm [] 8 d v|none=>none
theorem rs1_ok(ht:TTok K.P t){rv:ResultVar}{d:V}(h:rs1 t S rv d=some d):ResOne K.P S rv d:=by
 grind [rs1,rsv_ok]
variable{R:Type}{x r:R}
def rsN(t:TT)(S:St):List ResultVar->V->Option V
 |[],d=>(match d with | .tup ds=>(match ds with|[]=>some (.tup [])|_=>none)|_=>none)
 |[a],d=>rs1 t S a d
 |[a,b],d=>(match d with
  | .tup ds=>(match ds with
   |[x,y]=>(match rs1 t S a x with|some x'=>(match rs1 t S b y with|some y'=>some (.tup [x',y'])|none=>none)|none=>none)
   |_=>none)
  |_=>none)
 |[a,b,c],d=>(match d with
  | .tup ds=>(match ds with
   |[x,y,z]=>(match rs1 t S a x with|some x'=>(match rs1 t S b y with|some y'=>(match rs1 t S c z with|some z'=>some (.tup [x',y',z'])|none=>none)|none=>none)|none=>none)
   |_=>none)
  |_=>none)
 |[a,b,c,e],d=>(match d with
  | .tup ds=>(match ds with
   |[x,y,z,u]=>(match rs1 t S a x with|some x'=>(match rs1 t S b y with|some y'=>(match rs1 t S c z with|some z'=>(match rs1 t S e u with|some u'=>some (.tup [x',y',z',u'])|none=>none)|none=>none)|none=>none)|none=>none)
   |_=>none)
  |_=>none)
 |_,_=>none
theorem rsN_ok(ht:TTok K.P t){l:List ResultVar}{d:V}(h:rsN t S l d=some d):ResV K.P S l d:=by
 unfold rsN at h
 split at h
 ·split at h
  ·split at h
   ·exact .none
   grind
  grind
 ·exact .one (rs1_ok ht h)
 ·split at h
  ·split at h
   ·split at h
    ·rename_i h1
     split at h
     ·rename_i h2
      simp at h;obtain⟨rfl,rfl⟩:=h
      exact .two (rs1_ok ht h1) (rs1_ok ht h2)
     grind
    grind
   grind
  grind
 ·split at h
  ·split at h
   ·split at h
    ·rename_i h1
     split at h
     ·rename_i h2
      split at h
      ·rename_i h3
       simp at h;obtain⟨rfl,rfl,rfl⟩:=h
       exact .three (rs1_ok ht h1) (rs1_ok ht h2) (rs1_ok ht h3)
      grind
     grind
    grind
   grind
  grind
 ·split at h
  ·split at h
   ·split at h
    ·rename_i h1
     split at h
     ·rename_i h2
      split at h
      ·rename_i h3
       split at h
       ·rename_i h4
        simp at h;obtain⟨rfl,rfl,rfl,rfl⟩:=h
        exact .four (rs1_ok ht h1) (rs1_ok ht h2) (rs1_ok ht h3) (rs1_ok ht h4)
       grind
      grind
     grind
    grind
   grind
  grind
 grind
def retR(P:Program)(l:List ResultVar)(d:R->V)(r:R):Post:=retQ P l (d r)
theorem rt[ht:TC K t]{d:R->V}{l:List ResultVar}(h:some x=some r)(hv:rsN t S l (d x)=some (d x)):WG K (retR K.P l d r) (.c .ret::s) S:=by
 have:=ae8 h;subst this
 exact awp_ret (post_ret ⟨.inl rfl,rsN_ok ht.h hv⟩)
theorem pin{gl:Gl}{P:Program}{f:FuncId}{fn:Func}{c:Code}{N:Nat}{args:List V}{l:List ResultVar}{env:Env}{dr:V}(d:R->V)(r:R)(hd:d r=dr)(hf:P.funcs[f]? = some fn)(hb:fn.body=some c)(hN:fn.ntmps=N)
  (hl:fn.results=l.toArray) (ha:Nat.ble args.length N=true) (henv:frc (argEnv 0 args)=some env)
  (h:∀(w0:World) (m0:Mem) (hg:GlOk gl m0),WG (ctx gl P N w0 m0 hg) (retR P l d r) [.c c] ⟨env,[],0⟩):PureG gl P f args dr:=hd ▸ pure_enter hf hb hN hl ha env (frc_ok henv) h
theorem ck{p:Prop}[Decidable p]{A:Option R}{G:Prop}(h:(if p then A else none)=some r)(k:p->A=some r->G):G:=let ⟨a,b⟩:=chk_some h;k a b
def dsC(N:Nat)(ops:Array Oper)(e:Env)(o:Oper):Option Nat:=
 match wt ops e o.guard with
 |some b=>(match b with|true=>(match o.dst with|some d=>(match Nat.blt d N with|true=>some d|false=>none)|none=>none)|false=>none)
 |none=>none
theorem dsC_ok{e:Env}(ha:Ag e S){o:Oper}{N d:Nat}(h:dsC N ops e o=some d):Wants ops S o true/\o.dst=some d/\Nat.blt d N=true:=by
 grind [dsC,wt_ok]
def ixD(t:TT)(e:Env):Op->Option (V×Int×Nat)
 | .indexAddr T x y=>(match ask t T TF.qSl with
  |some k=>(match evC e x with
   |some v=>(match evC e y with|some (.con (.int _ n))=>some (v,n,k)|_=>none)
   |none=>none)
  |none=>none)
 |_=>none
section
variable{α:Type}{a:List α}{n:Int}{y:α}{enc:α->List V}{d k:Nat}{o:Oper}{e:Env}{hp:Heap}{nx:Nat}
theorem ixhA(ht:TTok K.P t)(hx:idx a n=some y)(hd:dsC K.N ops e o=some d)(hs:ixD t e o.op=some (.lst k (a.map enc),n,k))
  (ha:Ag e S) (kk:AOps K ops l Q (S.put d (.iptr (enc y) 0))):AOps K ops (o::l) Q S:=by
 obtain⟨dst,op,ty,pos,after,g⟩:=o
 obtain⟨h1,h2,h3⟩:=dsC_ok ha hd
 simp only at h2;subst h2
 cases op<;>simp only[ixD,reduceCtorEq] at hs
 split at hs
 ·rename_i hk
  split at hs
  ·rename_i hv
   split at hs
   ·rename_i hy
    simp only[aq8,Prod.mk.injEq] at hs
    obtain⟨rfl,rfl,rfl⟩:=hs
    exact aops_index_lst _ (askSl ht hk) h1 (evC_ok ha hv) (evC_ok ha hy) (idx_some hx).1 (idx_map enc hx) h3 kk
   ·simp at hs
  ·simp at hs
 ·simp at hs
theorem ixh[ht:TC K t](hx:idx a n=some y)(hd:dsC K.N ops e o=some d)(hs:ixD t e o.op=some (.lst k (a.map enc),n,k))
  (kk:WG K Q (.o ops l::s) ⟨(d,.iptr (enc y) 0)::e,hp,nx⟩):WG K Q (.o ops (o::l)::s) ⟨e,hp,nx⟩:=ixhA ht.h hx hd hs (agE (S:=⟨e,hp,nx⟩)) kk
theorem ixl{f:α->Option R}[ht:TC K t](h:(idx a n).bind f=some r)(hd:dsC K.N ops e o=some d)(hs:ixD t e o.op=some (.lst k (a.map enc),n,k))
  (kk:∀y,idx a n=some y->f y=some r->WG K Q (.o ops l::s) ⟨(d,.iptr (enc y) 0)::e,hp,nx⟩):WG K Q (.o ops (o::l)::s) ⟨e,hp,nx⟩:=
 let ⟨y,hy,h⟩:=bind_some h;ixh hy hd hs (kk y hy h)
theorem ixohA{id len:Nat}(ht:TTok K.P t)(hx:idx a n=some y)(hd:dsC K.N ops e o=some d)(hs:ixD t e o.op=some (.own id len,n,k))(hl:len=a.length)
  (ha:Ag e S) (kk:AOps K ops l Q (S.put d (.ptr id k n.toNat 0))):AOps K ops (o::l) Q S:=by
 obtain⟨dst,op,ty',pos,after,g⟩:=o
 obtain⟨h1,h2,h3⟩:=dsC_ok ha hd
 simp only at h2;subst h2
 cases op<;>simp only[ixD,reduceCtorEq] at hs
 split at hs
 ·rename_i hk
  split at hs
  ·rename_i hv
   split at hs
   ·rename_i hy
    simp only[aq8,Prod.mk.injEq] at hs
    obtain⟨rfl,rfl,rfl⟩:=hs
    exact aops_index_own (askSl ht hk) h1 (evC_ok ha hv) (evC_ok ha hy) (idx_some hx).1 (by rw[hl];exact idx_lt hx) h3 kk
   ·simp at hs
  ·simp at hs
 ·simp at hs
theorem ixoh{id len:Nat}[ht:TC K t](hx:idx a n=some y)(hd:dsC K.N ops e o=some d)(hs:ixD t e o.op=some (.own id len,n,k))(hl:len=a.length)
  (kk:WG K Q (.o ops l::s) ⟨(d,.ptr id k n.toNat 0)::e,hp,nx⟩):WG K Q (.o ops (o::l)::s) ⟨e,hp,nx⟩:=ixohA ht.h hx hd hs hl (agE (S:=⟨e,hp,nx⟩)) kk
theorem ixo{f:α->Option R}{id len:Nat}[ht:TC K t](h:(idx a n).bind f=some r)(hd:dsC K.N ops e o=some d)(hs:ixD t e o.op=some (.own id len,n,k))(hl:len=a.length)
  (kk:∀y,idx a n=some y->f y=some r->WG K Q (.o ops l::s) ⟨(d,.ptr id k n.toNat 0)::e,hp,nx⟩):WG K Q (.o ops (o::l)::s) ⟨e,hp,nx⟩:=
 let ⟨y,hy,h⟩:=bind_some h;ixoh hy hd hs hl (kk y hy h)
def ixS(t:TT)(e:Env):Op->Option (ByteArray×Int)
 | .index T x y=>(match ask t T TF.qStr with
  |some _=>(match evC e x with
   |some (.con v)=>(match v with | .string s=>(match evC e y with|some (.con (.int _ n))=>some (s,n)|_=>none)|_=>none)
   |_=>none)
  |none=>none)
 |_=>none
theorem ixs{f:UInt8->Option R}{b:List UInt8}[ht:TC K t](h:(idx b n).bind f=some r)(hd:dsC K.N ops e o=some d)(hs:ixS t e o.op=some (⟨b.toArray⟩,n))
  (kk:∀y,idx b n=some y->f y=some r->WG K Q (.o ops l::s) ⟨(d,.con (.int .u8 y.toNat))::e,hp,nx⟩):WG K Q (.o ops (o::l)::s) ⟨e,hp,nx⟩:=by
 obtain⟨y,hy,hf⟩:=bind_some h
 obtain⟨dst,op,ty',pos,after,g⟩:=o
 obtain⟨h1,h2,h3⟩:=dsC_ok (agE (S:=⟨e,hp,nx⟩)) hd
 simp only at h2;subst h2
 cases op<;>simp only[ixS,reduceCtorEq] at hs
 split at hs
 ·rename_i hk
  split at hs
  ·rename_i hv
   split at hs
   ·split at hs
    ·rename_i hyy
     simp only[aq8,Prod.mk.injEq] at hs
     obtain⟨rfl,rfl⟩:=hs
     exact aops_indexT y (askStr ht.h hk) h1 (evC_ok (agE (S:=⟨e,hp,nx⟩)) hv) (evC_ok (agE (S:=⟨e,hp,nx⟩)) hyy) (idx_some hy).1 (idx_some hy).2 h3 (kk y hy hf)
    ·simp at hs
   ·simp at hs
  ·simp at hs
 ·simp at hs
def lnD(t:TT)(e:Env):Op->Option V
 | .call c=>(match c.callee with
  | .builtin b=>(match b,c.args.toList,c.argTypes.toList with
   | .len,[x],[T]=>(match ask t T TF.qSn with|some _=>evC e x|none=>none)
   |_,_,_=>none)
  |_=>none)
 |_=>none
theorem lnA(ht:TTok K.P t)(hd:dsC K.N ops e o=some d)(hs:lnD t e o.op=some (.lst k (a.map enc)))
  (ha:Ag e S) (kk:AOps K ops l Q (S.put d (iV a.length))):AOps K ops (o::l) Q S:=by
 obtain⟨dst,op,ty',pos,after,g⟩:=o
 obtain⟨h1,h2,h3⟩:=dsC_ok ha hd
 simp only at h2;subst h2
 cases op<;>simp only[lnD,reduceCtorEq] at hs
 rename_i c
 obtain⟨callee,args,at'⟩:=c
 simp only at hs
 split at hs
 ·split at hs
  ·rename_i h4 h5
   have h4:=toList_one h4
   have h5:=toList_one h5
   subst h4;subst h5
   split at hs
   ·rename_i hT
    exact aops_len (n:=a.length) (askSn ht hT) h1 (evC_ok ha hs) (congrArg some (bb8 ..)) h3 kk
   ·simp at hs
  ·simp at hs
 ·simp at hs
theorem ln[ht:TC K t](hd:dsC K.N ops e o=some d)(hs:lnD t e o.op=some (.lst k (a.map enc)))
  (kk:WG K Q (.o ops l::s) ⟨(d,iV a.length)::e,hp,nx⟩):WG K Q (.o ops (o::l)::s) ⟨e,hp,nx⟩:=lnA ht.h hd hs (agE (S:=⟨e,hp,nx⟩)) kk
def ldD(e:Env):Op->Option (V×Nat)
 | .load T x=>(match evC e x with|some v=>some (v,T)|none=>none)
 |_=>none
theorem ldpA{id ty off T:Nat}{v:V}(ht:TTok K.P t)(hx:idx a n=some y)(hd:dsC K.N ops e o=some d)(hs:ldD e o.op=some (.ptr id k n.toNat off,T))(ho:hget S.hp id=.arr ty k (a.map enc))
  (hv:ldV t T (enc y) off=some v) (ha:Ag e S) (kk:AOps K ops l Q (S.put d v)):AOps K ops (o::l) Q S:=by
 obtain⟨dst,op,ty',pos,after,g⟩:=o
 obtain⟨h1,h2,h3⟩:=dsC_ok ha hd
 simp only at h2;subst h2
 cases op<;>simp only[ldD,reduceCtorEq] at hs
 split at hs
 ·rename_i hxx
  simp only[aq8,Prod.mk.injEq] at hs
  obtain⟨rfl,rfl⟩:=hs
  exact ldV_p ht hv (evC_ok ha hxx) ho (idx_map enc hx) h1 h3 kk
 ·simp at hs
theorem ldp{id ty off T:Nat}{v:V}[ht:TC K t](hx:idx a n=some y)(hd:dsC K.N ops e o=some d)(hs:ldD e o.op=some (.ptr id k n.toNat off,T))(ho:hget hp id=.arr ty k (a.map enc))
  (hv:ldV t T (enc y) off=some v) (kk:WG K Q (.o ops l::s) ⟨(d,v)::e,hp,nx⟩):WG K Q (.o ops (o::l)::s) ⟨e,hp,nx⟩:=ldpA (S:=⟨e,hp,nx⟩) ht.h hx hd hs ho hv (agE (S:=⟨e,hp,nx⟩)) kk
def stD(t:TT)(e:Env):Op->Option (V×List V×Nat)
 | .store T x y=>(match ask t T TF.qS with
  |some n=>(match evC e x with
   |some p=>(match evC e y with
    |some v=>(match vcC v with|some cs=>(match lenIs n cs&&allB cs with|true=>some (p,cs,n)|false=>none)|none=>none)
    |none=>none)
   |none=>none)
  |none=>none)
 |_=>none
theorem stS{id ty off m:Nat}{cs:List V}(z:α)[ht:TC K t](hx:idx a n=some y)(hw:wt ops e o.guard=some true)(hd:o.dst=none)(hs:stD t e o.op=some (.ptr id k n.toNat off,cs,m))(ho:hget hp id=.arr ty k (a.map enc))
  (hz:(enc y).take off++cs++(enc y).drop (off+m)=enc z) (hl:Nat.ble (off+m) (enc y).length=true)
  (kk:WG K Q (.o ops l::s) ⟨e,(id,.arr ty k ((a.set n.toNat z).map enc))::hp,nx⟩):WG K Q (.o ops (o::l)::s) ⟨e,hp,nx⟩:=by
 obtain⟨dst,op,ty',pos,after,g⟩:=o
 have h1:=wt_ok (agE (S:=⟨e,hp,nx⟩)) hw
 simp only at hd;subst hd
 cases op<;>simp only[stD,reduceCtorEq] at hs
 split at hs
 ·rename_i hS
  split at hs
  ·rename_i hp'
   split at hs
   ·rename_i hv
    split at hs
    ·rename_i hc
     split at hs
     ·rename_i hb
      simp only[al9] at hb
      simp only[aq8,Prod.mk.injEq] at hs
      obtain⟨rfl,rfl,rfl⟩:=hs
      have hlen:=lenIs_ok hb.1
      subst hlen
      exact aops_store _ _ (askS ht.h hS) h1 (evC_ok (agE (S:=⟨e,hp,nx⟩)) hp') (evC_ok (agE (S:=⟨e,hp,nx⟩)) hv) (vcC_ok hc) (allB_ok hb.2) ho (idx_map enc hx) hl (by rw[hz];exact map_set enc a _ z) kk
     ·simp at hs
    ·simp at hs
   ·simp at hs
  ·simp at hs
 ·simp at hs
end
theorem callN_run{o:Oper}{f:FuncId}{fx:Operand}{first captured:List V}{args:Array Operand}{at':Array TypeId}{avs avs0:List V}(hf:fnOk K.P f=true)(ho:o.op=.call ⟨.value fx,args,at'⟩)
  (hfx:evl K S fx=.fn (.func f) first captured) (ha:first++args.toList.map (evl K S)++captured=avs0)
  (hi:avs.length=avs0.length/\∀(i:Nat) c c',avs[i]? = some c->avs0[i]? = some c'->NSub c c'):
  ∀m β w a,Rel K m β w a S->∃vs:Array Value,(execOp a.eval o).run K.P w=.ok (.enter f vs) w/\IRels m avs vs:=by
 intro m β w a r
 have h:=r.reads fx
 rw[hfx] at h
 have key:∃fs cs:Array Value,a.eval fx=.func (.func f) fs cs/\first.length=fs.size/\captured.length=cs.size/\(∀(i:Nat) c v,first[i]? = some c->fs[i]? = some v->VRel m β c v)/\
   ∀(i:Nat) c v,captured[i]? = some c->cs[i]? = some v->VRel m β c v:=by
  generalize a.eval fx=v at h
  cases h with
  |imm h=>cases h with|fn h1 h2 h3 h4=>exact⟨_,_,rfl,h1,h2,fun i c v a b=>.imm (h3 i c v a b),fun i c v a b=>.imm (h4 i c v a b)⟩
  |fn h1 h2 h3 h4=>grind
 obtain⟨fs,cs,e1,e2,e3,e4,e5⟩:=key
 refine⟨fs++args.map a.eval++cs,?_,?_⟩
 ·simp_all[execOp,resolve,Deferred.ofValue,invoke,run_enter]
 ·refine⟨by grind,fun i c v h1 h2=>?_⟩
  obtain⟨c',hc'⟩:∃c',avs0[i]? = some c':=⟨avs0[i]'(by grind),by simp⟩
  refine hi.2 i c c' h1 hc' m β v ?_
  clear h1
  have h1:=hc'
  rw[<-ha,bj9,ba8,bb8] at h1
  rw[bq9,bp8,Array.size_map,<-e2] at h2
  simp only[bc8] at h1
  split at h1
  ·rename_i hlt
   rw[if_pos hlt] at h2
   rw[bj9] at h1
   rw[bq9,<-e2] at h2
   split at h1
   ·grind
   ·rename_i hlt'
    rw[if_neg hlt'] at h2
    rw[at9] at h1
    rw[bp9] at h2
    cases hx:args[i - first.length]? with
    |none=>grind
    |some x=>
     simp[hx] at h1 h2
     subst h1;subst h2
     exact r.reads x
  grind
def clD(e:Env):Op->Option (Nat×List V)
 | .call c=>(match c.callee with
  | .value x=>(match evC e x with
   |some (.fn g first caps)=>(match g with
    | .func f=>(match evL e c.args.toList with
     |some vs=>(match frc (first++vs++caps) with|some r=>some (f,r)|none=>none)
     |none=>none)
    |_=>none)
   |_=>none)
  |_=>none)
 |_=>none
theorem clA{f d:Nat}{avs avs0:List V}{res:V}{o:Oper}{e:Env}(ht:TTok K.P t)(hd:dsC K.N ops e o=some d)
  (hs:clD e o.op=some (f,avs0)) (hF:ask t f TF.qFn=some ()) (hW:PureG K.gl K.P f avs res) (hz:zipO (nrm [] 8) avs avs0=some avs) (ha:Ag e S)
  (kk:AOps K ops l Q (S.put d res)):AOps K ops (o::l) Q S:=by
 obtain⟨h1,h2,h3⟩:=dsC_ok ha hd
 obtain⟨dst,op,ty',pos,after,g⟩:=o
 cases op<;>simp only[clD,reduceCtorEq] at hs
 rename_i c
 obtain⟨callee,args,at'⟩:=c
 simp only at hs
 split at hs
 ·rename_i x
  split at hs
  ·rename_i first caps hx
   split at hs
   ·split at hs
    ·rename_i vs hv
     split at hs
     ·rename_i q hq
      simp only[aq8,Prod.mk.injEq] at hs
      obtain⟨rfl,rfl⟩:=hs
      have hq:=frc_ok hq
      have hv:=evL_ok (K:=K) ha hv
      exact aops_calls h1 h2 h3 (callN_run (S:=S) (askFn ht hF) rfl (evC_ok ha hx) (by rw[hv];exact hq) (zipO_nsub hz)) hW kk
     ·simp at hs
    ·simp at hs
   ·simp at hs
  ·simp at hs
 ·simp at hs
theorem cl{A:Type}{mm:Option A}{fk:A->Option R}{f d:Nat}{avs avs0:List V}{res:A->V}{o:Oper}{e:Env}{hp:Heap}{nx:Nat}[ht:TC K t](h:mm.bind fk=some r)(hd:dsC K.N ops e o=some d)
  (hs:clD e o.op=some (f,avs0)) (hF:ask t f TF.qFn=some ()) (hW:∀y,mm=some y->PureG K.gl K.P f avs (res y)) (ha:zipO (nrm [] 8) avs avs0=some avs)
  (kk:∀y,mm=some y->fk y=some r->WG K Q (.o ops l::s) ⟨(d,res y)::e,hp,nx⟩):WG K Q (.o ops (o::l)::s) ⟨e,hp,nx⟩:=by
 obtain⟨y,hy,h⟩:=bind_some h
 exact clA ht.h hd hs hF (hW y hy) ha (agE (S:=⟨e,hp,nx⟩)) (kk y hy h)
def apD(t:TT)(e:Env):Op->Option (V×V×Nat×Nat×Nat)
 | .call c=>(match c.callee with
  | .builtin b=>(match b,c.args.toList,c.argTypes.toList with
   | .append,[x,y],[T,T']=>(match ask t T TF.qEl with
    |some (E,k,by')=>(match ask t T' TF.qSn with
     |some _=>(match evC e x with|some v=>(match evC e y with|some u=>some (v,u,E,k,by')|none=>none)|none=>none)
     |none=>none)
    |none=>none)
   |_,_,_=>none)
  |_=>none)
 |_=>none
theorem apXo{α:Type}{xs ys:List α}{enc:α->List V}{d id n E k bytes:Nat}{sv:V}{o:Oper}{e:Env}{hp:Heap}{nx:Nat}[ht:TC K t](hb:(xs++ys).length*bytes<=140737488355328\/((ys.map enc).length=1/\(xs++ys).length*bytes<=211106232532992/\bytes<=1000000))(hd:dsC K.N ops e o=some d)
  (hs:apD t e o.op=some (.own id n,sv,E,k,bytes)) (ho:hget hp id=.arr E k (xs.map enc)) (hn:xs.length=n) (hsrc:Src ⟨e,hp,nx⟩ k sv (ys.map enc)) (hp0:(Nat.blt 0 bytes&&Nat.blt 0 k)=true)
  (kk:WG K Q (.o ops l::s) ⟨(d,.own nx (xs++ys).length)::e,(nx,.arr E k ((xs++ys).map enc))::(id,.dead)::hp,nx+1⟩):WG K Q (.o ops (o::l)::s) ⟨e,hp,nx⟩:=by
 obtain⟨h1,h2,h3⟩:=dsC_ok (agE (S:=⟨e,hp,nx⟩)) hd
 simp only[al9] at hp0
 obtain⟨dst,op,ty',pos,after,g⟩:=o
 simp only at h2;subst h2
 cases op<;>simp only[apD,reduceCtorEq] at hs
 rename_i c
 obtain⟨callee,args,at'⟩:=c
 simp only at hs
 split at hs
 ·split at hs
  ·rename_i h4 h5
   have h4:=toList_two h4
   have h5:=toList_two h5
   subst h4;subst h5
   split at hs
   ·rename_i hE
    split at hs
    ·rename_i hS
     split at hs
     ·rename_i hx
      split at hs
      ·rename_i hy
       simp only[aq8,Prod.mk.injEq] at hs
       obtain⟨rfl,rfl,rfl,rfl,rfl⟩:=hs
       exact aops_appendO (S:=⟨e,hp,nx⟩) (ys.map enc) ((xs++ys).map enc) (askEl ht.h hE) (askSn ht.h hS) hp0.1 hp0.2 h1 (evC_ok (agE (S:=⟨e,hp,nx⟩)) hx) ho (by simp[hn]) (evC_ok (agE (S:=⟨e,hp,nx⟩)) hy) hsrc (map_snoc enc xs ys) (bb8 ..) hb h3 kk
      ·simp at hs
     ·simp at hs
    ·simp at hs
   ·simp at hs
  ·simp at hs
 ·simp at hs
theorem apX{α:Type}{xs ys:List α}{enc:α->List V}{d id n E k bytes:Nat}{sv:V}{o:Oper}{e:Env}{hp:Heap}{nx:Nat}[ht:TC K t](hb:(xs++ys).length*bytes<=140737488355328)(hd:dsC K.N ops e o=some d)
  (hs:apD t e o.op=some (.own id n,sv,E,k,bytes)) (ho:hget hp id=.arr E k (xs.map enc)) (hn:xs.length=n) (hsrc:Src ⟨e,hp,nx⟩ k sv (ys.map enc)) (hp0:(Nat.blt 0 bytes&&Nat.blt 0 k)=true)
  (kk:WG K Q (.o ops l::s) ⟨(d,.own nx (xs++ys).length)::e,(nx,.arr E k ((xs++ys).map enc))::(id,.dead)::hp,nx+1⟩):WG K Q (.o ops (o::l)::s) ⟨e,hp,nx⟩:=
 apXo (.inl hb) hd hs ho hn hsrc hp0 kk
theorem apO{α:Type}{A:Option R}{xs ys:List α}{d id n id2 n2 E E2 k bytes:Nat}{rows2:List (List V)}{o:Oper}{e:Env}{hp:Heap}{nx:Nat}(enc:α->List V)[i:EI enc][ht:TC K t]
  (h:(if (xs++ys).length*bytes<=140737488355328 then A else none)=some r) (hd:dsC K.N ops e o=some d)
  (hs:apD t e o.op=some (.own id n,.own id2 n2,E,k,bytes)) (ho:hget hp id=.arr E k (xs.map enc)) (hn:xs.length=n) (ho2:hget hp id2=.arr E2 k rows2) (hr2:rows2=ys.map enc) (hn2:ys.length=n2) (hp0:(Nat.blt 0 bytes&&Nat.blt 0 k)=true)
  (kk:A=some r->WG K Q (.o ops l::s) ⟨(d,.own nx (xs++ys).length)::e,(nx,.arr E k ((xs++ys).map enc))::(id,.dead)::hp,nx+1⟩):WG K Q (.o ops (o::l)::s) ⟨e,hp,nx⟩:=
 ck h fun hb h=>apX hb hd hs ho hn (.own (by rw[ho2,hr2]) (by simp[hn2]) (nd_rows (rows_imm i.h))) hp0 (kk h)
theorem jK{κ α:Type}{b:κ->Option R}{k:κ}{x:Code}(h:jn k b=some r)(T:α->St)(G:κ->α->Prop)(h1:∀k,b k=some r->WG K Q (.c x::.j (Jn K T (G k))::s) S)(h2:∀p,G k p->WG K Q s (T p)):
  WG K Q (.c x::s) S:=jC T (G k) (h1 k h) h2
theorem jE{α:Type}{T:α->St}{G:α->Prop}(p:α)(h:G p)(hg:Ghost K S (T p)):∃p,G p/\Ghost K S (T p):=⟨p,h,hg⟩
theorem jX{α:Type}{T:α->St}{G:α->Prop}(p:α)(h:G p)(hg:Ghost K S (T p)):WG K Q (.j (Jn K T G)::s) S:=⟨p,h,hg⟩
theorem wE(h:Q .normal S):WG K Q [] S:=h
theorem wR(h:Q .ret S):WG K Q (.c .ret::s) S:=awp_ret (post_ret h)
def frS:St->Option St
 |⟨e,hp,nx⟩=>(match frc e with|some e'=>(match frc hp with|some hp'=>some ⟨e',hp',nx⟩|none=>none)|none=>none)
theorem bs{A B:Option R}{c:Bool}{G:Prop}(h:(if c=true then A else B)=some r)(kt:c=true->A=some r->G)(kf:c=false->B=some r->G):G:=by
 grind
theorem wl{α:Type}{A:List α}{enc:α->List V}{k:Nat}{e:Env}{hp:Heap}{nx:Nat}{x:Code}(n:Nat)(hc:gtC e n=some (.lst k (A.map enc)))(h:A.length<=maxLen->WG K Q (.c x::s) ⟨e,hp,nx⟩):WG K Q (.c x::s) ⟨e,hp,nx⟩:=
 awp_len n (gtC_ok hc) h
def tps:List Operand->List Nat
 |[]=>[]
 | .tmp t::l=>t::tps l
 |_::l=>tps l
def opX:Op->List Operand
 | .move x=>[x]
 | .assign x=>[x]
 | .load _ x=>[x]
 | .nilCheck x=>[x]
 | .unOp _ _ x=>[x]
 | .convert _ _ x=>[x]
 | .fieldAddr _ x _=>[x]
 | .field _ x _=>[x]
 | .extract x _=>[x]
 | .pick a b c=>[a,b,c]
 | .build _ ps=>ps.toList.map (·.2)
 | .store _ a b=>[a,b]
 | .binOp _ _ a b _=>[a,b]
 | .indexAddr _ a b=>[a,b]
 | .index _ a b=>[a,b]
 | .makeFunc _ _ cs=>cs.toList
 | .call c=>(match c.callee with | .value f=>f::c.args.toList|_=>c.args.toList)
 |_=>[]
def grd(ops:Array Oper)(o:Oper)(l:List Nat):Option (List Nat):=
 match o.guard with
 |none=>some l
 |some p=>(match p with|(j,_)=>(match ops[j]? with|some o'=>(match o'.dst with|some t=>some (t::l)|none=>none)|none=>none))
def rdC(e:Env):List Nat->Option Env
 |[]=>some []
 |t::l=>(match gtC e t with|some v=>(match rdC e l with|some r=>some ((t,v)::r)|none=>none)|none=>none)
def rdO(ops:Array Oper)(o:Oper)(e:Env):Option Env:=match grd ops o (tps (opX o.op)) with|some l=>rdC e l|none=>none
theorem rdC_ok{e:Env}:∀{l:List Nat} {re:Env},rdC e l=some re->RdE e re
 |[],re,h=>by simp[rdC] at h;subst h;trivial
 |t::l,re,h=>by
  simp only[rdC] at h
  split at h
  ·rename_i v hv
   split at h
   ·rename_i q hq;simp at h;subst h;exact⟨gtC_ok hv,rdC_ok hq⟩
   ·simp at h
  ·simp at h
theorem rdO_ok{o:Oper}{e re:Env}(h:rdO ops o e=some re):RdE e re:=by
 grind [rdO,rdC_ok]
theorem ag_rdE{S:St}:∀{re:Env},RdE S.env re->Ag re S
 |[],_,t,v,h=>by simp[gtC] at h
 |(k,x)::re,hr,t,v,h=>by
  simp only[gtC] at h
  cases hb:Nat.beq k t with
  |true=>rw[hb] at h;simp at h;subst h;rw[<-bw8 hb];exact hr.1
  |false=>rw[hb] at h;simp at h;exact ag_rdE (S:=S) hr.2 t v h
theorem ag_rdH{S:St}:∀{rh:Heap},RdH S.hp rh->AgH rh S
 |[],_,t,v,h=>by simp[hgC] at h
 |(k,x)::re,hr,t,v,h=>by
  simp only[hgC] at h
  cases hb:Nat.beq k t with
  |true=>rw[hb] at h;simp at h;subst h;rw[<-bw8 hb];exact hr.1
  |false=>rw[hb] at h;simp at h;exact ag_rdH (S:=S) hr.2 t v h
def hrX(e:Env)(hp:Heap)(x:Operand):Option Heap:=
 match evC e x with
 |some v=>(match v with | .ptr id _ _ _=>(match hgC hp id with|some ob=>some [(id,ob)]|none=>none)|_=>some [])
 |none=>none
def hrC(e:Env)(hp:Heap):Op->Option Heap
 | .load _ x=>hrX e hp x
 | .store _ x _=>hrX e hp x
 |_=>some []
theorem hrX_ok{e:Env}{hp rh:Heap}{x:Operand}(h:hrX e hp x=some rh):RdH hp rh:=by
 unfold hrX at h
 split at h
 ·split at h
  ·split at h
   ·rename_i ho;simp at h;subst h;exact⟨hgC_ok ho,trivial⟩
   grind
  ·simp at h;subst h;trivial
 grind
theorem hrC_ok{e:Env}{hp rh:Heap}{op:Op}(h:hrC e hp op=some rh):RdH hp rh:=by
 cases op<;>simp only[hrC] at h<;>first|exact hrX_ok h|(simp at h;subst h;trivial)
def od(t:TT)(N:Nat)(ops:Array Oper)(o:Oper):St->Option (OD×St)
 |⟨e,hp,nx⟩=>
  match rdO ops o e with
  |none=>none
  |some re=>(match wt ops re o.guard with
   |none=>none
   |some b=>(match b with
    |false=>(match o.dst with|some d=>(match Nat.blt d N with|true=>some (⟨re,[],[(d,.con undef)],[]⟩,⟨(d,.con undef)::e,hp,nx⟩)|false=>none)|none=>none)
    |true=>(match hrC re hp o.op with
     |none=>none
     |some rh=>(match o.dst with
      |some d=>(match Nat.blt d N with
       |false=>none
       |true=>(match val t re rh o.op with|some v=>some (⟨re,rh,[(d,v)],[]⟩,⟨(d,v)::e,hp,nx⟩)|none=>none))
      |none=>(match sto t re rh o.op with|some p=>(match p with|(id,ob)=>some (⟨re,rh,[],[(id,ob)]⟩,⟨e,(id,ob)::hp,nx⟩))|none=>none)))))
theorem od_ok(ht:TTok K.P t){o:Oper}{D:OD}{nx:Nat}(h:od t K.N ops o S=some (D,S')):OStep K nx ops o D/\RdE S.env D.re/\RdH S.hp D.rh/\S'=S.upd D:=by
 obtain⟨e,hp,nx'⟩:=S
 simp only[od] at h
 split at h
 ·simp at h
 ·rename_i re hre
  have hre':=rdO_ok hre
  split at h
  ·simp at h
  ·rename_i b hw
   split at h
   ·split at h
    ·rename_i d hd
     split at h
     ·rename_i hN
      simp at h;obtain⟨rfl,rfl⟩:=h
      exact⟨fun S2 hn h1 h2=>aops_skip (wt_ok (ag_rdE h1) hw) hd hN (aops_nil ⟨rfl,rfl⟩),hre',trivial,rfl⟩
     grind
    grind
   ·split at h
    ·simp at h
    ·rename_i rh hrh
     have hrh':=hrC_ok hrh
     obtain⟨dst,op,ty,pos,after,g⟩:=o
     cases dst with
     |some d=>
      simp only at h
      split at h
      ·simp at h
      ·rename_i hN
       split at h
       ·rename_i v hv
        simp at h;obtain⟨rfl,rfl⟩:=h
        exact⟨fun S2 hn h1 h2=>val_ok ht (ag_rdE h1) (ag_rdH h2) hv (wt_ok (ag_rdE h1) hw) hN (aops_nil ⟨rfl,rfl⟩),hre',hrh',rfl⟩
       grind
     |none=>
      simp only at h
      split at h
      ·rename_i hv
       simp at h;obtain⟨rfl,rfl⟩:=h
       exact⟨fun S2 hn h1 h2=>sto_ok ht (ag_rdE h1) (ag_rdH h2) hv (wt_ok (ag_rdE h1) hw) (aops_nil ⟨rfl,rfl⟩),hre',hrh',rfl⟩
      grind
inductive Dr(K:Ctx)(A:Heap->Prop)(nx:Nat)(ops:Array Oper):List Oper->St->List OD->St->Prop
 |nil {S:St}:Dr K A nx ops [] S [] S
 |cons {o:Oper} {os:List Oper} {S S' E:St} {D:OD} {ds:List OD} (h1:RdE S.env D.re) (h2:RdH S.hp D.rh) (h:OStepA K A nx ops o D) (hS:S'=S.upd D) (r:Dr K A nx ops os S' ds E):Dr K A nx ops (o::os) S (D::ds) E
theorem Dr.fin{A:Heap->Prop}{nx:Nat}{os:List Oper}{E:St}{ds:List OD}(h:Dr K A nx ops os S ds E):LexOk S ds/\(∀(i:Nat) (o:Oper) (D:OD),os[i]? = some o->ds[i]? = some D->OStepA K A nx ops o D)/\lexEnd S ds=E:=by
 induction h with
 |nil=>exact⟨trivial,fun i o D h=>by simp at h,rfl⟩
 |cons h1 h2 h hS r ih=>
  subst hS
  refine⟨⟨h1,h2,ih.1⟩,fun i o D a b=>?_,ih.2.2⟩
  grind
theorem dr{rid nx:Nat}{l:List Oper}{e:Env}{hp:Heap}{ds:List OD}{E:St}(hm:K.P.follows .mixedOrders=true)(h:Dr K (fun _=>True) nx l.toArray l ⟨e,hp,nx⟩ ds E)(hok:anyOk l ds=true)(k:WG K Q s E):
  WG K Q (.c (.region rid l.toArray true)::s) ⟨e,hp,nx⟩:=by
 obtain⟨h1,h2,h3⟩:=h.fin
 exact awp_region_anyA ds hm h1 hok (fun _=>trivial) h2 (by rw[h3];exact k)
def odR(t:TT)(N:Nat)(ops:Array Oper):Nat->List Oper->St->Option (List OD×List Oper×St)
 |0,l,S=>some ([],l,S)
 |n+1,l,S=>(match l with
  |[]=>none
  |o::l=>(match od t N ops o S with
   |some (D,S')=>(match odR t N ops n l S' with|some (ds,l',S2)=>some (D::ds,l',S2)|none=>none)
   |none=>none))
theorem vs{A:Heap->Prop}[ht:TC K t]{nx:Nat}{E:St}{ds':List OD}:∀(n:Nat) {os os':List Oper} {S S':St} {ds:List OD},odR t K.N ops n os S=some (ds,os',S')->Dr K A nx ops os' S' ds' E->Dr K A nx ops os S (ds++ds') E
 |0,os,os',S,S',ds,h,r=>by simp_all[odR]
 |n+1,os,os',S,S',ds,h,r=>by
  simp only[odR] at h
  split at h
  ·simp at h
  ·split at h
   ·rename_i hod
    split at h
    ·rename_i hR
     simp at h;obtain⟨rfl,rfl,rfl⟩:=h
     obtain⟨a1,a2,a3,a4⟩:=od_ok (nx:=nx) ht.h hod
     exact .cons a2 a3 (fun S hn _=>a1 S hn) a4 (vs n hR r)
    ·simp at h
   ·simp at h
section
variable{A:Heap->Prop}{o:Oper}{os:List Oper}{e re:Env}{hp rh:Heap}{nx n' d:Nat}{ds:List OD}{E:St}
theorem vb{c b:Bool}{X:St}[ht:TC K t](hb:c=b)(h:od t K.N ops o ⟨e,hp,nx⟩=some (⟨re,rh,[(d,.con (.bool c))],[]⟩,X))(r:Dr K A n' ops os ⟨(d,.con (.bool b))::e,hp,nx⟩ ds E):
  Dr K A n' ops (o::os) ⟨e,hp,nx⟩ (⟨re,rh,[(d,.con (.bool b))],[]⟩::ds) E:=by
 subst hb
 obtain⟨a1,a2,a3,a4⟩:=od_ok (nx:=n') ht.h h
 exact .cons a2 a3 (fun S hn _=>a1 S hn) rfl r
theorem cD{f:Nat}{avs avs0:List V}{res:V}[ht:TC K t](hre:rdO ops o e=some re)(hd:dsC K.N ops re o=some d)(hs:clD re o.op=some (f,avs0))(hF:ask t f TF.qFn=some ())(hW:PureG K.gl K.P f avs res)
  (hz:zipO (nrm [] 8) avs avs0=some avs) (r:Dr K A n' ops os ⟨(d,res)::e,hp,nx⟩ ds E):Dr K A n' ops (o::os) ⟨e,hp,nx⟩ (⟨re,[],[(d,res)],[]⟩::ds) E:=
 .cons (rdO_ok hre) trivial (fun _ _ _ h1 _=>clA ht.h hd hs hF hW hz (ag_rdE h1) (aops_nil ⟨rfl,rfl⟩)) rfl r
variable{α:Type}{a:List α}{i:Int}{y:α}{enc:α->List V}{k:Nat}
theorem iD[ht:TC K t](hx:idx a i=some y)(hre:rdO ops o e=some re)(hd:dsC K.N ops re o=some d)(hs:ixD t re o.op=some (.lst k (a.map enc),i,k))
  (r:Dr K A n' ops os ⟨(d,.iptr (enc y) 0)::e,hp,nx⟩ ds E):Dr K A n' ops (o::os) ⟨e,hp,nx⟩ (⟨re,[],[(d,.iptr (enc y) 0)],[]⟩::ds) E:=
 .cons (rdO_ok hre) trivial (fun _ _ _ h1 _=>ixhA ht.h hx hd hs (ag_rdE h1) (aops_nil ⟨rfl,rfl⟩)) rfl r
theorem xD(D:OD){S':St}(hl:RdE e D.re/\RdH hp D.rh)(h:∀S,S.nx=n'->RdE S.env D.re->RdH S.hp D.rh->AOps K ops [o] (fun e T=>e=.normal/\T=S.upd D) S)
  (hS:frS (St.upd ⟨e,hp,nx⟩ D)=some S') (r:Dr K A n' ops os S' ds E):Dr K A n' ops (o::os) ⟨e,hp,nx⟩ (D::ds) E:=
 .cons hl.1 hl.2 (fun S hn _=>h S hn) (by
  grind [frS,St.upd,frc_ok]) r
end
end
end Go.Pv
