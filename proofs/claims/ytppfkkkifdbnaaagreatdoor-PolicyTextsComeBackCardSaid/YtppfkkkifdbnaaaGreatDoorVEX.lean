/- Part of the proof. -/
import Derived.Test.YtppfkkkifdbnaaaGreatDoorVT9PA
import Derived.Test.YtppfkkkifdbnaaaGreatDoorVQDW13a
set_option linter.unusedSimpArgs false
set_option linter.unusedVariables false
namespace Go.Proofs.YtppfkkkifdbnaaaGreatDoor.Qd
open Go Go.Pv
set_option maxRecDepth 100000
def isQ(c:UInt8):Bool:=c==34||c==92
def nQ(s:List UInt8):Nat:=s.countP isQ
abbrev tb:List (Nat×List Int):=[(34,([92,34]:List Int)),(92,([92,92]:List Int))]
theorem nQ_cons(c:UInt8)(s:List UInt8):nQ (c::s)=(if isQ c=true then 1 else 0)+nQ s:=by
 unfold nQ;rw[List.countP_cons];omega
theorem nQ_le:∀s:List UInt8,nQ s<=s.length
 |[]=>ab8 _
 |c::s=>by have:=nQ_le s;rw[nQ_cons,bl8];split<;>omega
theorem isQ_iff{c:UInt8}:isQ c=true<->c=34\/c=92:=by simp[isQ]
theorem esc_len:∀s:List UInt8,(escT s).length=s.length+nQ s
 |[]=>rfl
 |c::s=>by
  have:=esc_len s
  rw[escT,nQ_cons]
  by_cases h:c=34\/c=92
  ·rw[if_pos h,if_pos (isQ_iff.2 h)];simp;omega
  ·rw[if_neg h,if_neg (fun q=>h (isQ_iff.1 q))];simp;omega
theorem esc_none:∀s:List UInt8,nQ s=0->escT s=s
 |[],_=>rfl
 |c::s,h=>by
  rw[nQ_cons] at h
  by_cases hc:isQ c=true
  ·rw[if_pos hc] at h;omega
  ·rw[escT,if_neg (fun q=>hc (isQ_iff.2 q)),esc_none s (by rw[if_neg hc] at h;omega)]
theorem nQ_count:∀s:List UInt8,nQ s=s.count 34+s.count 92
 |[]=>rfl
 |c::s=>by
  rw[nQ_cons,nQ_count s,List.count_cons,List.count_cons]
  by_cases h1:c=34
  ·subst h1;simp[isQ];omega
  ·by_cases h2:c=92
   ·subst h2;simp[isQ];omega
   ·simp[isQ,h1,h2]
theorem tab_some{c:UInt8}(h:c=34\/c=92):tabO tb ((c.toNat:Int)).toNat=some [92,(c.toNat:Int)]:=by
 rcases h with rfl|rfl<;>rfl
theorem tab_none{c:UInt8}(h:¬(c=34\/c=92)):tabO tb ((c.toNat:Int)).toNat=none:=by
 have h1:¬(34:Nat)=c.toNat:=fun e=>h (.inl (UInt8.toNat_inj.1 e.symm))
 have h2:¬(92:Nat)=c.toNat:=fun e=>h (.inr (UInt8.toNat_inj.1 e.symm))
 simp[tabO,h1,h2]
theorem c256(c:UInt8):0<=(c.toNat:Int)/\(c.toNat:Int).toNat<256:=⟨by omega,by have:=c.toNat_lt;omega⟩
variable(F:Nat)(s:List UInt8)(hs:s.length<=35184372088832)
include hs
theorem L2_ok(k:Int->Bool->Option (List UInt8)):∀(m n acc:Nat) (b:Bool),n+m=s.length->acc<=s.length+n->M196_L2 F s k m (n:Int) (acc:Int) b=k ((acc+nQ (s.drop n):Nat):Int) (b||decide (0<nQ (s.drop n)))
 |0,n,acc,b,h,_=>by
  rw[M196_L2,ai9 (by omega)]
  simp[nQ]
 |m+1,n,acc,b,h,ha=>by
  have hn:n<s.length:=by omega
  have e:((n:Int)+1)=((n+1:Nat):Int):=rfl
  rw[M196_L2,idx_nat hn,bn9,if_pos (c256 _),jn_def,bj8 hn,nQ_cons]
  by_cases hq:s[n]=34\/s[n]=92
  ·rw[tab_some hq,if_pos (by simp),if_pos (c256 _),bn9,if_pos (isQ_iff.2 hq)]
   have hw:w64 (((([92,(s[n].toNat:Int)]:List Int).length:Nat):Int) - 1)=1:=rfl
   rw[hw,w64_id (by omega) (by omega),show((acc:Int)+1)=((acc+1:Nat):Int) from rfl,e]
   refine aa9 (L2_ok k m (n+1) (acc+1) true (by omega) (by omega)) ?_
   congr 1
   ·omega
   ·have:0<1+nQ (List.drop (n+1) s):=by omega
    simp[this]
  ·rw[tab_none hq,if_neg (by simp),if_neg (fun q=>hq (isQ_iff.1 q)),e]
   refine aa9 (L2_ok k m (n+1) acc b (by omega) (by omega)) ?_
   rw[br9]
theorem L1_ok(k:Int->Bool->Option (List UInt8)):M196_L1 F s k 2 0 (s.length:Int) false=k ((s.length+nQ s:Nat):Int) (decide (0<nQ s)):=by
 have h1:M198 F s [34]=some ((s.count 34:Nat):Int):=rfl
 have h2:M198 F s [92]=some ((s.count 92:Nat):Int):=rfl
 have hq:=nQ_count s
 have hl:=nQ_le s
 have step:∀(c:UInt8) (hc:c=34\/c=92) (acc q:Nat) (b:Bool) (kk:Int->Bool->Option (List UInt8)),acc<=2*s.length->q<=s.length->
   (if (((q:Nat):Int) != 0)=true then (idx ([c]:List UInt8) 0).bind fun c24=>if 0<=(c24.toNat:Int)/\(c24.toNat:Int).toNat<256 then ((tabO tb (c24.toNat:Int).toNat)).bind fun l27=>kk (w64 ((acc:Int)+(w64 (((q:Nat):Int)*(w64 (((l27.length:Nat):Int) - 1)))))) true else none
    else kk (acc:Int) b)=kk ((acc+q:Nat):Int) (b||decide (0<q)):=by
  intro c hc acc q b kk ha hq
  by_cases h0:q=0
  ·subst h0
   rw[if_neg (by simp)];simp
  ·rw[if_pos (by simp;omega),show idx ([c]:List UInt8) 0=some c from rfl,bn9,if_pos (c256 _),tab_some hc,bn9]
   have hw:w64 (((([92,(c.toNat:Int)]:List Int).length:Nat):Int) - 1)=1:=rfl
   rw[hw,Int.mul_one,w64_id (n:=((q:Nat):Int)) (by omega) (by omega),w64_id (by omega) (by omega),decide_eq_true (by omega),Bool.or_true]
   congr 1
 rw[M196_L1,show idx ([([34]:List UInt8),([92]:List UInt8)]:List (List UInt8)) 0=some [34] from rfl,bn9,h1,bn9,jn_def]
 refine aa9 (step 34 (.inl rfl) s.length (s.count 34) false _ (by omega) (by omega)) ?_
 rw[M196_L1,show idx ([([34]:List UInt8),([92]:List UInt8)]:List (List UInt8)) (0+1)=some [92] from rfl,bn9,h2,bn9,jn_def]
 refine aa9 (step 92 (.inr rfl) (s.length+s.count 34) (s.count 92) _ _ (by omega) (by omega)) ?_
 rw[M196_L1]
 congr 1
 ·omega
 ·rw[hq]
  by_cases g1:0<s.count 34<;>by_cases g2:0<s.count 92<;>simp[g1,g2]<;>omega
theorem L3_ok(k:List Int->Option (List UInt8)):∀(m n pos:Nat) (l:List Int),n+m=s.length->pos+(escT (s.drop n)).length<=l.length->l.length<=2*s.length->
  M196_L3 F s k m (n:Int) (pos:Int) l=k (l.take pos++((escT (s.drop n)).map fun c=>(c.toNat:Int))++l.drop (pos+(escT (s.drop n)).length))
 |0,n,pos,l,h,hp,_=>by
  rw[M196_L3,ai9 (by omega)]
  simp[escT]
 |m+1,n,pos,l,h,hp,hl=>by
  have hn:n<s.length:=by omega
  have e:((n:Int)+1)=((n+1:Nat):Int):=rfl
  rw[M196_L3,idx_nat hn,bn9,if_pos (c256 _),jn_def]
  rw[bj8 hn,escT] at hp ⊢
  by_cases hq:s[n]=34\/s[n]=92
  ·rw[if_pos hq] at hp ⊢
   simp only[bl8] at hp
   rw[tab_some hq,if_pos (by simp),if_pos ⟨by omega,by omega⟩,if_pos (c256 _),bn9,if_pos (by simp;omega),bb9]
   have hw:w64 ((pos:Int)+((([92,(s[n].toNat:Int)]:List Int).length:Nat):Int))=((pos+2:Nat):Int):=by
    rw[w64_id (by simp;omega) (by simp;omega)];simp
   rw[hw,e]
   refine aa9 (L3_ok k m (n+1) (pos+2) (cpL l pos [92,(s[n].toNat:Int)]) (by omega) (by rw[cpL_length];omega) (by rw[cpL_length];omega)) ?_
   congr 1
   unfold cpL
   rw[if_pos (by simp;omega)]
   have h1:(l.take pos++[92,(s[n].toNat:Int)]).length=pos+2:=by simp;omega
   have h2:(l.take pos++[92,(s[n].toNat:Int)]++l.drop (pos+2)).take (pos+2)=l.take pos++[92,(s[n].toNat:Int)]:=by
    rw[<-h1,List.take_left]
   have h3:∀j,(l.take pos++[92,(s[n].toNat:Int)]++l.drop (pos+2)).drop (pos+2+j)=l.drop (pos+2+j):=fun j=>by
    rw[<-bu8,<-h1,List.drop_left,h1,bu8]
   simp only[bl8,bh8,br9] at h2 h3 ⊢
   rw[show pos+(1+1)=pos+2 from rfl,h2,h3,bd8,bd8]
   have h92:((92:UInt8).toNat:Int)=92:=rfl
   rw[h92]
   simp only[bo8,List.cons_append,ab9]
   rw[show pos+2+(escT (s.drop (n+1))).length=pos+((escT (s.drop (n+1))).length+1+1) by omega]
  ·rw[if_neg hq] at hp ⊢
   simp only[bl8] at hp
   have hpl:pos<l.length:=by omega
   rw[tab_none hq,if_neg (by simp),idx_nat hpl,bn9,w64_id (by omega) (by omega),bb9,show((pos:Int)+1)=((pos+1:Nat):Int) from rfl,e]
   refine aa9 (L3_ok k m (n+1) (pos+1) (l.set pos (s[n].toNat:Int)) (by omega) (by rw[List.length_set];omega) (by rw[List.length_set];omega)) ?_
   congr 1
   have h2:(l.set pos (s[n].toNat:Int)).take (pos+1)=l.take pos++[(s[n].toNat:Int)]:=by
    rw[List.take_succ_eq_append_getElem (by simpa using hpl),List.take_set_of_le (ab8 _)]
    simp
   have h3:∀j,(l.set pos (s[n].toNat:Int)).drop (pos+1+j)=l.drop (pos+1+j):=fun j=>List.drop_set_of_lt (by omega)
   rw[h2,h3]
   simp only[bo8,List.cons_append,ab9,bd8,bl8]
   rw[show pos+1+(escT (s.drop (n+1))).length=pos+((escT (s.drop (n+1))).length+1) by omega]
theorem M196_eq:M196 F s=some (escT s):=by
 have hl:=nQ_le s
 have he:=esc_len s
 have h2:=fun k=>L2_ok F s hs k s.length 0 s.length false (br9 _) (by omega)
 have h3:=fun k=>L3_ok F s hs k s.length 0 0 (List.replicate (s.length+nQ s) (0:Int)) (br9 _) (by rw[af9,bi8];omega) (by rw[af9];omega)
 simp only[show((0:Nat):Int)=0 from rfl,bi8,bt8,List.take_zero,ab9,br9] at h2 h3
 have key:∀(a:Int) (b:Bool),a=((s.length+nQ s:Nat):Int)->b=decide (0<nQ s)->(if (!b)=true then some s
   else if 0<=a/\((1:Nat):Int)*a<=140737488355328/\a<=140737488355328 then jn (fun(l54:List Int)=>some (l54.map fun n=>UInt8.ofNat n.toNat)) (fun k53=>if (s.length:Int)<=9223372036854775807 then M196_L3 F s k53 (((s.length:Int):Int).toNat) 0 0 (List.replicate (a).toNat (0:Int)) else none) else none)=some (escT s):=by
  rintro a b rfl rfl
  by_cases h0:0<nQ s
  ·rw[decide_eq_true h0,if_neg (by simp),if_pos ⟨by omega,by omega,by omega⟩,jn_def,if_pos (by omega),bb9,bb9,h3]
   congr 1
   rw[ai9 (by rw[af9];omega),aa8,ax8]
   conv=>rhs;rw[<-List.map_id (escT s)]
   exact br8 fun c _=>by simp
  ·rw[decide_eq_false h0,if_pos (by simp),esc_none s (by omega)]
 unfold M196
 rw[jn_def]
 by_cases h16:16<=s.length
 ·rw[if_pos (decide_eq_true (by omega)),jn_def,if_pos (by decide),show(2:Int).toNat=2 from rfl,L1_ok F s hs]
  exact key _ _ rfl rfl
 ·rw[if_neg (by simp;omega),jn_def,if_pos (by omega),bb9,h2]
  exact key _ _ rfl rfl
theorem M13_eq:M13 F s=some (quoteT s):=by
 have hl:=nQ_le s
 have he:=esc_len s
 have h38:M38 F=some ():=by unfold M38;exact if_pos (by decide)
 have h98:M98 F=some ():=by
  unfold M98
  rw[if_pos (by decide)]
  exact if_pos (by decide)
 unfold M13 M39 M68 M69
 rw[h38,bn9,h98,bn9,bn9,M196_eq F s hs,bn9,bn9,if_pos (by simp;omega),if_pos (by simp;omega)]
 rfl
end Go.Proofs.YtppfkkkifdbnaaaGreatDoor.Qd
namespace Go.Proofs.YtppfkkkifdbnaaaGreatDoor
open Go Go.Pv
theorem quoted_pure{s:List UInt8}(h:s.length<=35184372088832):PureG gl Tryz.prog 13 [sV s] (sV (quoteT s)):=
 fun m w vs a b c=>Qd.W13 0 s _ (Qd.M13_eq 0 s h) m w vs a GlOk.nil c
end Go.Proofs.YtppfkkkifdbnaaaGreatDoor
namespace Go.Pv
open Go
section
variable{K:Ctx}{Q:Post}{S S':St}{ops:Array Oper}{rest:List Oper}{t:TT}
def putE(d:Nat)(v:V):Env->Env
 |[]=>[(d,v)]
 |(k,x)::e=>bif Nat.beq k d then (d,v)::e else (k,x)::putE d v e
def putH(d:Nat)(v:Ob):Heap->Heap
 |[]=>(match v with | .dead=>[]|v=>[(d,v)])
 |(k,x)::e=>bif Nat.beq k d then (d,v)::e else (k,x)::putH d v e
theorem beq_ite(k d:Nat){α:Type}(a b:α):(bif Nat.beq k d then a else b)=if k=d then a else b:=by
 simp_all
theorem get_putE(d:Nat)(v:V):∀(e:Env) (t:Nat),get (putE d v e) t=get ((d,v)::e) t
 |[],t=>rfl
 |(k,x)::e,t=>by
  simp only[putE,beq_ite]
  split
  ·simp_all[get_put]
  ·rename_i h
   rw[get_put,get_putE d v e t,get_put,get_put,get_put]
   grind
theorem hget_putH(d:Nat)(v:Ob):∀(e:Heap) (t:Nat),hget (putH d v e) t=hget ((d,v)::e) t
 |[],t=>by
  cases v with
  |dead=>simp only[putH];rw[hget_put];split<;>rfl
  |_=>rfl
 |(k,x)::e,t=>by
  simp only[putH,beq_ite]
  split
  ·simp_all[hget_put]
  ·rename_i h
   rw[hget_put,hget_putH d v e t,hget_put,hget_put,hget_put]
   grind
def tidyE:Env->Env
 |(d,v)::e=>putE d v e
 |[]=>[]
def tidyH:Heap->Heap
 |(d,v)::(d2,v2)::e=>putH d v (putH d2 v2 e)
 |e=>e
theorem get_tidyE(e:Env)(t:Nat):get (tidyE e) t=get e t:=by
 cases e with
 |nil=>rfl
 |cons p e=>exact get_putE p.1 p.2 e t
theorem hget_tidyH(e:Heap)(t:Nat):hget (tidyH e) t=hget e t:=by
 match e with
 |[]=>rfl
 |[p]=>rfl
 |(d,v)::(d2,v2)::e=>
  show hget (putH d v (putH d2 v2 e)) t=_
  simp_all[hget_putH,hget_put]
theorem ghost_tidy{e:Env}{hp:Heap}{nx:Nat}:Ghost K ⟨e,hp,nx⟩ ⟨tidyE e,tidyH hp,nx⟩:=fun m β _ _ r=>⟨m,β,r.congr (get_tidyE e) (hget_tidyH hp) rfl⟩
def keyEq:Value->Value->Option Bool
 | .int k a,.int k' b=>(match decide (k=k') with|true=>some (decide (a=b))|false=>none)
 | .string a,.string b=>some (strL a==strL b)
 |_,_=>none
theorem strL_inj{a b:ByteArray}(h:strL a=strL b):a=b:=by
 exact Value.string.inj ((str_strL a).symm.trans ((congrArg str h).trans (str_strL b)))
theorem keyEq_ok{x y:Value}{b:Bool}(h:keyEq x y=some b):(x=y<->b=true):=by
 unfold keyEq at h
 split at h
 ·grind
 ·simp at h;subst h
  constructor
  ·grind
  ·intro e;exact congrArg Value.string (strL_inj (by grind))
 grind
def lookC(x:Value):List (Value×V)->Option (Option V)
 |[]=>some none
 |(k,v)::es=>match keyEq k x with|some b=>(match b with|true=>some (some v)|false=>lookC x es)|none=>none
theorem lookC_ok{x:Value}:∀{es:List (Value×V)} {r:Option V},lookC x es=some r->Look x es r
 |[],r,h=>by simp[lookC] at h;subst h;exact .nil
 |(k,v)::es,r,h=>by
  simp only[lookC] at h
  split at h
  ·rename_i b hb
   have hb:=keyEq_ok hb
   split at h
   ·simp at h;subst h
    rw[hb.2 rfl];exact .here
   ·exact .there (fun e=>by simpa using hb.1 e) (lookC_ok h)
  ·simp at h
def putsC(x:Value)(v:V):List (Value×V)->Option (List (Value×V))
 |[]=>some [(x,v)]
 |(k,v')::es=>match keyEq k x with
  |some b=>(match b with|true=>some ((x,v)::es)|false=>(match putsC x v es with|some r=>some ((k,v')::r)|none=>none))
  |none=>none
theorem putsC_ok{x:Value}{v:V}:∀{es r:List (Value×V)},putsC x v es=some r->Puts x v es r
 |[],r,h=>by simp[putsC] at h;subst h;exact .nil
 |(k,v')::es,r,h=>by
  simp only[putsC] at h
  split at h
  ·rename_i b hb
   have hb:=keyEq_ok hb
   split at h
   ·simp at h;subst h
    rw[hb.2 rfl];exact .here
   ·split at h
    ·rename_i q hq;simp at h;subst h
     exact .there (fun e=>by simpa using hb.1 e) (putsC_ok hq)
    ·simp at h
  ·simp at h
structure MT where
 T:Nat
 k:Nat
 e:Nat
 txt:Bool
 ik:IntKind
 z:V
def gkey(txt:Bool)(ik:IntKind):Value->Prop:=fun v=>match txt with|true=>isStr v|false=>isInt ik v
structure MTok1(P:Program)(p:MT):Prop where
 h1:tyMap P p.T p.k p.e=true
 h2:KeyT P p.k (gkey p.txt p.ik)
 h3:∃zv,(P.info? p.e).bind (·.zero)=some zv/\∀m,IRel m p.z zv
def MTok(P:Program)(l:List MT):Prop:=∀p,p∈l->MTok1 P p
def mtf:List MT->Nat->Option MT
 |[],_=>none
 |p::l,T=>bif Nat.beq p.T T then some p else mtf l T
theorem mtf_ok{P:Program}:∀{l:List MT} {T:Nat} {p:MT},MTok P l->mtf l T=some p->MTok1 P p/\p.T=T
 |q::l,T,p,hl,h=>by
  simp only[mtf] at h
  cases hb:Nat.beq q.T T with
  |true=>rw[hb] at h;simp at h;subst h;exact⟨hl _ bs9,bw8 hb⟩
  |false=>rw[hb] at h;simp at h;exact mtf_ok (fun p hp=>hl p (bm8 _ hp)) h
 |[],T,p,hl,h=>by simp[mtf] at h
def isKey(txt:Bool)(ik:IntKind):Value->Bool
 | .string _=>txt
 | .int k _=>(match txt with|true=>false|false=>decide (k=ik))
 |_=>false
theorem isKey_ok{txt:Bool}{ik:IntKind}{v:Value}(h:isKey txt ik v=true):gkey txt ik v:=by
 unfold isKey at h
 unfold gkey
 split at h
 ·subst h;exact⟨_,rfl⟩
 ·split at h
  ·simp at h
  ·have h:=of_decide_eq_true h;subst h;exact⟨_,rfl⟩
 grind
def allK(txt:Bool)(ik:IntKind):List (Value×V)->Bool
 |[]=>true
 |p::l=>bif isKey txt ik p.1 then allK txt ik l else false
theorem allK_ok{txt:Bool}{ik:IntKind}:∀{l:List (Value×V)},allK txt ik l=true->∀p,p∈l->gkey txt ik p.1
 |[],_,p,hp=>by simp at hp
 |q::l,h,p,hp=>by
  simp only[allK] at h
  cases hb:isKey txt ik q.1 with
  |true=>
   rw[hb] at h;simp at h
   rcases am8.1 hp with rfl|hp
   ·exact isKey_ok hb
   ·exact allK_ok h p hp
  |false=>rw[hb] at h;simp at h
def bndC(e:Env)(d:Nat):Option Operand->Option Nat
 |none=>some d
 |some y=>(match evC e y with|some (.con (.int _ n))=>(match n with | .ofNat j=>some j|_=>none)|_=>none)
theorem bndC_ok{e:Env}(ha:Ag e S){d j:Nat}{x:Option Operand}(h:bndC e d x=some j):BndIs K S x d j:=by
 unfold bndC at h
 split at h
 ·grind
 ·split at h
  ·rename_i hv
   split at h<;>grind [evC_ok]
  grind
def ndR:List (List V)->Bool
 |[]=>true
 |r::l=>bif ndB r then ndR l else false
theorem ndR_ok:∀{l:List (List V)},ndR l=true->∀row,row∈l->ndB row=true
 |[],_,r,hr=>by simp at hr
 |q::l,h,r,hr=>by
  simp only[ndR] at h
  cases hb:ndB q with
  |true=>
   rw[hb] at h;simp at h
   rcases am8.1 hr with rfl|hr
   ·exact hb
   ·exact ndR_ok h r hr
  |false=>rw[hb] at h;simp at h
def rowsK(k:Nat):List (List V)->Bool
 |[]=>true
 |r::l=>bif lenIs k r then rowsK k l else false
theorem rowsK_ok{k:Nat}:∀{l:List (List V)},rowsK k l=true->∀row,row∈l->row.length=k
 |[],_,r,hr=>by simp at hr
 |q::l,h,r,hr=>by
  simp only[rowsK] at h
  cases hb:lenIs k q with
  |true=>
   rw[hb] at h;simp at h
   rcases am8.1 hr with rfl|hr
   ·exact lenIs_ok hb
   ·exact rowsK_ok h r hr
  |false=>rw[hb] at h;simp at h
def chop(k:Nat):Nat->List V->List (List V)
 |0,_=>[]
 |n+1,l=>l.take k::chop k n (l.drop k)
theorem flat_chop{k:Nat}:∀(n:Nat) (l:List V),l.length=n*k->flat (chop k n l)=l
 |0,l,h=>by simp at h;subst h;rfl
 |n+1,l,h=>by
  simp only[chop,flat]
  rw[flat_chop n _ (by rw[aj9,h,ay8];omega),bw9]
theorem chop_len{k:Nat}:∀(n:Nat) (l:List V),(chop k n l).length=n
 |0,l=>rfl
 |n+1,l=>by simp[chop,chop_len n]
def stoR(t:TT)(e:Env)(hp:Heap):Op->Option (Nat×Ob)
 | .store T x y=>(match ask t T TF.qS with
  |some n=>(match evC e x with
   |some (.ptr id k i off)=>(match hgC hp id with
    |some (.arr ty k2 rows)=>(match Nat.beq k k2,lgt rows i with
     |true,some row=>(match evC e y with
      |some v=>(match vcC v with
       |some cs=>(match lenIs n cs&&allB cs&&Nat.ble (off+n) row.length with
        |true=>some (id,.arr ty k (rows.set i (row.take off++cs++row.drop (off+n))))
        |false=>none)
       |none=>none)
      |none=>none)
     |_,_=>none)
    |_=>none)
   |_=>none)
  |none=>none)
 |_=>none
theorem stoR_ok{op:Op}{ty:TypeId}{pos:String}{after:Array Edge}{g:Option (Nat×Bool)}(ht:TTok K.P t){e:Env}{hp:Heap}(ha:Ag e S)(hh:AgH hp S){id:Nat}{ob:Ob}(h:stoR t e hp op=some (id,ob))(hw:Wants ops S ⟨none,op,ty,pos,after,g⟩ true)
  (k:AOps K ops rest Q ⟨S.env,(id,ob)::S.hp,S.nx⟩):AOps K ops (⟨none,op,ty,pos,after,g⟩::rest) Q S:=by
 unfold stoR at h
 split at h
 ·split at h
  ·rename_i n hn
   split at h
   ·rename_i hx
    split at h
    ·rename_i ho
     split at h
     ·rename_i row hk hr
      have hk:=bw8 hk
      subst hk
      split at h
      ·rename_i v hy
       split at h
       ·rename_i cs hc
        split at h
        ·rename_i hb
         simp only[al9] at hb
         have hl:=lenIs_ok hb.1.1
         subst hl
         simp at h;obtain⟨rfl,rfl⟩:=h
         exact aops_store cs _ (askS ht hn) hw (evC_ok ha hx) (evC_ok ha hy) (vcC_ok hc) (allB_ok hb.1.2) (hh _ _ ho) (lgt_ok hr) hb.2 (by simp) k
        grind
       grind
      grind
     grind
    grind
   grind
  grind
 grind
def oneY(t:TT)(mt:List MT)(e:Env)(hp:Heap)(nx:Nat):Op->Option (V×Heap×Nat)
 | .indexAddr T x y=>(match ask t T TF.qSl with
  |some k=>(match evC e x with
   |some (.own id len)=>(match evC e y with
    |some (.con (.int _ n))=>(match n with
     | .ofNat j=>(match Nat.blt j len with|true=>some (.ptr id k j 0,[],0)|false=>none)
     |_=>none)
    |_=>none)
   |_=>none)
  |none=>none)
 | .build T parts=>(match ask t T TF.qArr with
  |some (_,k)=>(match ask t T TF.qZ with
   |some (_,zs)=>(match evP e parts.toList with
    |some ps=>(match fillV (fun i=>some (i*k,k)) (zs.map .con) ps with|some cs=>some (.agg cs,[],0)|none=>none)
    |none=>none)
   |none=>none)
  |none=>none)
 | .index T x y=>(match evC e x with
  |some (.agg cs)=>(match evC e y with
   |some (.con (.int _ n))=>(match n with
    | .ofNat j=>(match ask t T TF.qAA with
     |some (n,k,_)=>(match Nat.blt j n&&lenIs (n*k) cs with|true=>some (.agg ((cs.drop (j*k)).take k),[],0)|false=>none)
     |none=>(match ask t T TF.qAC with
      |some (n,_)=>(match Nat.blt j n,lgt cs j with|true,some c=>some (c,[],0)|_,_=>none)
      |none=>none))
    |_=>none)
   |_=>none)
  |_=>(match ask t T TF.qStr with
  |some _=>(match evC e x with
   |some (.con (.string b))=>(match evC e y with
    |some (.con (.int _ n))=>(match n with
     | .ofNat j=>(match lgt (strL b) j with|some c=>some (.con (.int .u8 c.toNat),[],0)|none=>none)
     |_=>none)
    |_=>none)
   |_=>none)
  |none=>none))
 | .slice T x lo hi mx=>(match mx with
  |some _=>none
  |none=>(match evC e x with
   |some (.con (.string b))=>(match ask t T TF.qStr with
    |some _=>(match bndC e 0 lo with
     |some a0=>(match bndC e (strL b).length hi with
      |some b0=>(match Nat.ble a0 b0&&Nat.ble b0 (strL b).length with|true=>some (.con (str (((strL b).drop a0).take (b0 - a0))),[],0)|false=>none)
      |none=>none)
     |none=>none)
    |none=>none)
   |some (.own id n)=>(match ask t T TF.qSl with
    |some k=>(match hgC hp id with
     |some (.arr ety k2 rows)=>(match Nat.beq k k2&&Nat.beq n rows.length&&ndR rows with
      |true=>(match lo with
       |none=>(match bndC e n hi with
        |some b0=>(match Nat.ble b0 n with|true=>some (.own id b0,[],0)|false=>none)
        |none=>none)
       |some _=>(match bndC e 0 lo with
        |some a0=>(match bndC e n hi with
         |some b0=>(match Nat.ble a0 b0&&Nat.ble b0 n with|true=>some (.own nx (b0 - a0),[(nx,.arr ety k (rows.drop a0)),(id,.dead)],1)|false=>none)
         |none=>none)
        |none=>none))
      |false=>none)
     |_=>none)
    |none=>none)
   |_=>none))
 | .binOp bop T x y T'=>(match evC e x,evC e y with
  |some (.con (.string a)),some (.con (.string b))=>(match binT bop (strL a) (strL b) with|some v=>some (.con v,[],0)|none=>none)
  |some v,some (.con (.slice none 0 0))=>(match ask t T TF.qSn,v with
   |some _,.own _ n=>(match n with
    |0=>none
    |_+1=>(match bop with | .eql=>some (.con (.bool false),[],0) | .neq=>some (.con (.bool true),[],0)|_=>none))
   |_,_=>none)
  |some v,some (.con (.map none))=>(match ask t T TF.qMn,mapNil v with
   |some _,some b=>(match bop with | .eql=>some (.con (.bool b),[],0) | .neq=>some (.con (.bool (!b)),[],0)|_=>none)
   |_,_=>none)
  |_,_=>none)
 | .makeFunc fn first caps=>(match fn,first.toList,caps.toList with
  | .method name,[x],[]=>(match evC e x with|some (.con (.iface T v))=>some (.con (.func (.method name) #[.iface T v] #[]),[],0)|_=>none)
  |_,_,_=>none)
 | .nilCheck x=>(match evC e x with
  |some (.con (.func (.method name) first caps))=>(match first.toList,caps.toList with
   |[.iface T v],[]=>(match ask t T (TF.qM name) with|some _=>some (.con (.func (.method name) #[.iface T v] #[]),[],0)|none=>none)
   |_,_=>none)
  |_=>none)
 | .makeInterface T x=>(match ask t T TF.qCn with
  |some _=>(match evC e x with
   |some v=>(match conV 8 v with|some c=>some (.con (.iface T c),[],0)|none=>none)
   |none=>none)
  |none=>none)
 | .buildSlice T n parts=>(match ask t T TF.qEl with
  |some (ety,k,_)=>(match n with
   |0=>(match parts.toList with|[]=>some (.own nx 0,[(nx,.arr ety k [])],1)|_=>none)
   |n'+1=>(match ask t ety TF.qZ with
    |some (_,zs)=>(match evP e parts.toList with
     |some ps=>(match fillV (fun i=>some (i*k,k)) (((List.range ((n'+1)*k)).map fun i=>zs.getD (i % k) undef).map .con) ps with
      |some cs=>(match Nat.beq cs.length ((n'+1)*k)&&rowsK k (chop k (n'+1) cs)&&Nat.blt 0 k&&Nat.ble ((n'+1)*k) 16777216 with
       |true=>some (.own nx (n'+1),[(nx,.arr ety k (chop k (n'+1) cs))],1)
       |false=>none)
      |none=>none)
     |none=>none)
    |none=>none))
  |none=>none)
 | .makeSlice T x y=>(match ask t T TF.qEl with
  |some (ety,k,bytes)=>(match ask t ety TF.qZ with
   |some (_,zs)=>(match x,y with
    | .tmp a,.tmp b=>(match Nat.beq a b,evC e x with
     |true,some (.con (.int .i64 n))=>(match n with
      | .ofNat j=>(match Nat.ble (bytes*j) 140737488355328&&Nat.ble j 140737488355328&&Nat.blt 0 k with
       |true=>some (.own nx j,[(nx,.arr ety k (List.replicate j (zs.map .con)))],1)
       |false=>none)
      |_=>none)
     |_,_=>none)
    |_,_=>none)
   |none=>none)
  |none=>none)
 | .lookup T x y ok=>(match mtf mt T with
  |some p=>(match evC e x with
   |some (.map id)=>(match hgC hp id with
    |some (.map es)=>(match evC e y with
     |some (.con kv)=>(match isKey p.txt p.ik kv&&allK p.txt p.ik es with
      |true=>(match lookC kv es with
       |some r=>(match (r.getD p.z).deep with
        |false=>(match ok with
         |true=>some (.tup [r.getD p.z,.con (.bool r.isSome)],[],0)
         |false=>some (r.getD p.z,[],0))
        |true=>none)
       |none=>none)
      |false=>none)
     |_=>none)
    |_=>none)
   |_=>none)
  |none=>none)
 | .call c=>(match c.callee,c.args.toList,c.argTypes.toList with
  | .builtin .append,[x,y],[T,T']=>(match ask t T TF.qEl,ask t T' TF.qSn with
   |some (ety,k,bytes),some _=>(match Nat.blt 0 bytes&&Nat.blt 0 k with
    |true=>(match evC e x with
     |some (.own id n)=>(match hgC hp id with
      |some (.arr e2 k2 rows)=>(match Nat.beq ety e2&&Nat.beq k k2&&Nat.beq rows.length n with
       |true=>(match evC e y with
        |some (.own id2 n2)=>(match hgC hp id2 with
         |some (.arr _ k3 rows2)=>(match Nat.beq k3 k&&Nat.beq rows2.length n2&&ndR rows2&&Nat.ble ((n+n2)*bytes) 140737488355328 with
          |true=>some (.own nx (n+n2),[(nx,.arr ety k (rows++rows2)),(id,.dead)],1)
          |false=>none)
         |_=>none)
        |some (.con (.slice none 0 0))=>(match Nat.ble (n*bytes) 140737488355328 with
         |true=>some (.own nx n,[(nx,.arr ety k rows),(id,.dead)],1)
         |false=>none)
        |_=>none)
       |false=>none)
      |_=>none)
     |_=>none)
    |false=>none)
   |_,_=>none)
  |_,_,_=>none)
 |_=>none
theorem toArray_eq{α:Type}{a:Array α}{l:List α}(h:a.toList=l):a=l.toArray:=by grind
section
variable{op:Op}{ty:TypeId}{pos:String}{after:Array Edge}{g:Option (Nat×Bool)}
theorem oneY_ok(ht:TTok K.P t){mt:List MT}(hmt:MTok K.P mt){d:Nat}{e:Env}{hp u:Heap}{nx q:Nat}{v:V}(ha:Ag e S)(hh:AgH hp S)(hnx:S.nx=nx)(h:oneY t mt e hp nx op=some (v,u,q))(hw:Wants ops S ⟨some d,op,ty,pos,after,g⟩ true)(hN:Nat.blt d K.N=true)
  (k:AOps K ops rest Q ⟨(d,v)::S.env,u++S.hp,S.nx+q⟩):AOps K ops (⟨some d,op,ty,pos,after,g⟩::rest) Q S:=by
 subst hnx
 cases op with
 |indexAddr T x y=>
  simp only[oneY] at h
  split at h
  ·rename_i kk hk
   split at h
   ·rename_i hx
    split at h
    ·rename_i hy
     split at h
     ·rename_i j
      split at h
      ·rename_i hb
       simp only[aq8,Prod.mk.injEq] at h;obtain⟨rfl,rfl,rfl⟩:=h
       exact aops_index_own (askSl ht hk) hw (evC_ok ha hx) (evC_ok ha hy) (Int.natCast_nonneg j) (ar9 hb) hN k
      grind
     grind
    grind
   grind
  grind
 |build T parts=>
  simp only[oneY] at h
  split at h
  ·rename_i hA
   split at h
   ·rename_i hz
    split at h
    ·rename_i ps hps
     split at h
     ·rename_i cs hcs
      obtain⟨z1,z2,z3⟩:=askZ ht hz
      simp only[aq8,Prod.mk.injEq] at h;obtain⟨rfl,rfl,rfl⟩:=h
      exact aops_buildA ps cs z1 (askArr ht hA) z3 hw (evP_ok ha hps) hcs hN k
     grind
    grind
   grind
  grind
 |index T x y=>
  simp only[oneY] at h
  split at h
  ·rename_i cs hx
   split at h
   ·rename_i hy
    split at h
    ·rename_i j
     split at h
     ·rename_i n kk _ hT
      split at h
      ·rename_i hb
       simp only[al9] at hb
       simp only[aq8,Prod.mk.injEq] at h;obtain⟨rfl,rfl,rfl⟩:=h
       exact aops_indexA _ (askAA ht hT) hw (evC_ok ha hx) (evC_ok ha hy) ⟨Int.natCast_nonneg j,ar9 hb.1⟩ (lenIs_ok hb.2) rfl hN k
      grind
     ·split at h
      ·rename_i hT
       split at h
       ·rename_i c hb hc
        simp only[aq8,Prod.mk.injEq] at h;obtain⟨rfl,rfl,rfl⟩:=h
        exact aops_indexAC c (askAC ht hT) hw (evC_ok ha hx) (evC_ok ha hy) ⟨Int.natCast_nonneg j,ar9 hb⟩ (lgt_ok hc) hN k
       grind
      grind
    grind
   grind
  ·split at h
   ·rename_i hk
    split at h
    ·rename_i b hx
     split at h
     ·rename_i hy
      split at h
      ·rename_i j
       split at h
       ·rename_i c hc
        simp only[aq8,Prod.mk.injEq] at h;obtain⟨rfl,rfl,rfl⟩:=h
        exact aops_indexT (l:=strL b) c (askStr ht hk) hw (by rw[evC_ok ha hx,str_strL]) (evC_ok ha hy) (Int.natCast_nonneg j) (lgt_ok hc) hN k
       grind
      grind
     grind
    grind
   grind
 |slice T x lo hi mx=>
  simp only[oneY] at h
  split at h
  ·simp at h
  ·split at h
   ·rename_i b hx
    split at h
    ·rename_i hk
     split at h
     ·rename_i a0 h0
      split at h
      ·rename_i b0 h1
       split at h
       ·rename_i hb
        simp only[al9] at hb
        simp only[aq8,Prod.mk.injEq] at h;obtain⟨rfl,rfl,rfl⟩:=h
        have e0:=bndC_ok (K:=K) ha h0
        have e1:=bndC_ok (K:=K) ha h1
        exact aops_sliceT (l:=strL b) a0 b0 _ (askStr ht hk) hw (by rw[evC_ok ha hx,str_strL]) (by grind) (by grind) (ar9 hb.1) (ar9 hb.2) rfl hN k
       grind
      grind
     grind
    grind
   ·rename_i id n hx
    split at h
    ·rename_i kk hk
     split at h
     ·rename_i ety k2 rows ho
      split at h
      ·rename_i hb
       simp only[al9] at hb
       have e1:=bw8 hb.1.1
       have e2:=bw8 hb.1.2
       subst e1
       split at h
       ·split at h
        ·rename_i b0 h1
         split at h
         ·rename_i hb2
          simp only[aq8,Prod.mk.injEq] at h;obtain⟨rfl,rfl,rfl⟩:=h
          exact aops_slice_ownhi (askSl ht hk) hw (evC_ok ha hx) (hh _ _ ho) (Nat.le_of_eq e2) (bndC_ok ha h1) (ar9 hb2) hN k
         grind
        grind
       ·split at h
        ·rename_i a0 h0
         split at h
         ·rename_i b0 h1
          split at h
          ·rename_i hb2
           simp only[al9] at hb2
           simp only[aq8,Prod.mk.injEq] at h;obtain⟨rfl,rfl,rfl⟩:=h
           exact aops_slice_own a0 b0 _ (askSl ht hk) hw (evC_ok ha hx) (hh _ _ ho) e2 rfl (bndC_ok ha h0) (bndC_ok ha h1) (ar9 hb2.1) (ar9 hb2.2) rfl (ndR_ok hb.2) hN k
          grind
         grind
        grind
      grind
     grind
    grind
   grind
 |binOp bop T x y T'=>
  simp only[oneY] at h
  split at h
  ·rename_i a b hx hy
   split at h
   ·rename_i v hv
    simp only[aq8,Prod.mk.injEq] at h;obtain⟨rfl,rfl,rfl⟩:=h
    exact aops_binT v hw (by rw[evC_ok ha hx,str_strL]) (by rw[evC_ok ha hy,str_strL]) hv hN k
   grind
  ·rename_i v _ hx hy
   split at h
   ·rename_i id n hk
    split at h
    ·simp at h
    ·split at h
     ·simp only[aq8,Prod.mk.injEq] at h;obtain⟨rfl,rfl,rfl⟩:=h
      exact aops_isNil false (askSn ht hk) hw (evC_ok ha hx) (evC_ok ha hy) rfl hN (fun b hb=>by rw[hb (Nat.succ_ne_zero _)];exact k)
     ·simp only[aq8,Prod.mk.injEq] at h;obtain⟨rfl,rfl,rfl⟩:=h
      exact aops_isNil true (askSn ht hk) hw (evC_ok ha hx) (evC_ok ha hy) rfl hN (fun b hb=>by rw[hb (Nat.succ_ne_zero _)];exact k)
     grind
   grind
  ·rename_i v _ hx hy
   split at h
   ·rename_i b hk hb
    split at h
    ·simp only[aq8,Prod.mk.injEq] at h;obtain⟨rfl,rfl,rfl⟩:=h
     exact aops_eqNilM false (askMn ht hk) hw (evC_ok ha hx) hb (evC_ok ha hy) hN k
    ·simp only[aq8,Prod.mk.injEq] at h;obtain⟨rfl,rfl,rfl⟩:=h
     exact aops_eqNilM true (askMn ht hk) hw (evC_ok ha hx) hb (evC_ok ha hy) hN k
    grind
   grind
  grind
 |makeFunc fn first caps=>
  simp only[oneY] at h
  split at h
  ·rename_i name x hf1 hc1
   have hf1:=toList_one hf1
   have hc1:=toList_nil hc1
   subst hf1 hc1
   split at h
   ·rename_i hx
    simp only[aq8,Prod.mk.injEq] at h;obtain⟨rfl,rfl,rfl⟩:=h
    exact aops_mkMeth hw (evC_ok ha hx) hN k
   grind
  grind
 |nilCheck x=>
  simp only[oneY] at h
  split at h
  ·rename_i name first caps hx
   split at h
   ·rename_i T v hf1 hc1
    have hf1:=toList_one hf1
    have hc1:=toList_nil hc1
    subst hf1 hc1
    split at h
    ·rename_i hm
     simp only[aq8,Prod.mk.injEq] at h;obtain⟨rfl,rfl,rfl⟩:=h
     exact aops_nilMeth (askM ht hm).2 hw (evC_ok ha hx) hN k
    grind
   grind
  grind
 |makeInterface T x=>
  simp only[oneY] at h
  split at h
  ·rename_i hk
   split at h
   ·rename_i hx
    split at h
    ·rename_i hc
     simp only[aq8,Prod.mk.injEq] at h;obtain⟨rfl,rfl,rfl⟩:=h
     exact aops_mkIface (askCn ht hk) hw (evC_ok ha hx) hc hN k
    grind
   grind
  grind
 |buildSlice T n parts=>
  simp only[oneY] at h
  split at h
  ·rename_i ety kk bytes hT
   split at h
   ·split at h
    ·rename_i hp0
     have:=toArray_eq hp0
     subst this
     simp only[aq8,Prod.mk.injEq] at h;obtain⟨rfl,rfl,rfl⟩:=h
     exact aops_emptySlice (askEl ht hT) hw hN k
    grind
   ·rename_i n'
    split at h
    ·rename_i zs hz
     split at h
     ·rename_i ps hps
      split at h
      ·rename_i cs hcs
       split at h
       ·rename_i hb
        simp only[al9] at hb
        have e1:=bw8 hb.1.1.1
        obtain⟨z1,z2,z3⟩:=askZ ht hz
        simp only[aq8,Prod.mk.injEq] at h;obtain⟨rfl,rfl,rfl⟩:=h
        exact aops_buildSlice ps _ (askEl ht hT) z1 z3 hb.1.2 rfl hb.2 hw (evP_ok ha hps) (by simp_all[flat_chop]) (chop_len _ _) (rowsK_ok hb.1.1.2) hN k
       grind
      grind
     grind
    grind
  grind
 |makeSlice T x y=>
  simp only[oneY] at h
  split at h
  ·rename_i ety kk bytes hT
   split at h
   ·rename_i zs hz
    split at h
    ·rename_i a b
     split at h
     ·rename_i n hab hx
      have hab:=bw8 hab
      subst hab
      split at h
      ·rename_i j
       split at h
       ·rename_i hb
        simp only[al9] at hb
        obtain⟨z1,z2,z3⟩:=askZ ht hz
        simp only[aq8,Prod.mk.injEq] at h;obtain⟨rfl,rfl,rfl⟩:=h
        have b1:=ar9 hb.1.1
        have b2:=ar9 hb.1.2
        have c1:((bytes*j:Nat):Int)<=((140737488355328:Nat):Int):=Int.ofNat_le.2 b1
        have c2:((j:Nat):Int)<=((140737488355328:Nat):Int):=Int.ofNat_le.2 b2
        rw[Int.natCast_mul] at c1
        exact aops_makeSlice _ (askEl ht hT) z1 z3 hb.2 ⟨Int.natCast_nonneg j,c1,c2⟩ rfl rfl hw (evC_ok ha hx) hN k
       grind
      grind
     grind
    grind
   grind
  grind
 |lookup T x y ok=>
  simp only[oneY] at h
  split at h
  ·rename_i p hp0
   obtain⟨hm,hTe⟩:=mtf_ok hmt hp0
   subst hTe
   obtain⟨zv,hz1,hz2⟩:=hm.h3
   split at h
   ·rename_i id hx
    split at h
    ·rename_i es ho
     split at h
     ·rename_i kv hy
      split at h
      ·rename_i hb
       simp only[al9] at hb
       split at h
       ·rename_i r hr
        split at h
        ·rename_i hdp
         split at h
         ·simp only[aq8,Prod.mk.injEq] at h;obtain⟨rfl,rfl,rfl⟩:=h
          exact aops_lookup_okB r p.z _ hm.h1 hm.h2 hz1 hz2 hw (evC_ok ha hx) (.own (hh _ _ ho)) (.con (evC_ok ha hy)) (isKey_ok hb.1) (allK_ok hb.2) (lookC_ok hr) rfl rfl hN k hdp
         ·simp only[aq8,Prod.mk.injEq] at h;obtain⟨rfl,rfl,rfl⟩:=h
          exact aops_lookup r p.z _ hm.h1 hm.h2 hz1 hz2 hw (evC_ok ha hx) (.own (hh _ _ ho)) (.con (evC_ok ha hy)) (isKey_ok hb.1) (allK_ok hb.2) (lookC_ok hr) rfl hN k hdp
        grind
       grind
      grind
     grind
    grind
   grind
  grind
 |call c=>
  obtain⟨callee,args,at'⟩:=c
  simp only[oneY] at h
  split at h
  ·rename_i x y T T' _ hargs hats
   have hargs:=toList_two hargs
   have hats:=toList_two hats
   subst hargs;subst hats
   split at h
   ·rename_i ety kk bytes _ hT hT'
    split at h
    ·rename_i hb0
     simp only[al9] at hb0
     split at h
     ·rename_i id n hx
      split at h
      ·rename_i rows ho
       split at h
       ·rename_i hb
        simp only[al9] at hb
        have e1:=bw8 hb.1.1
        have e2:=bw8 hb.1.2
        have e3:=bw8 hb.2
        subst e1;subst e2
        split at h
        ·rename_i id2 n2 hy
         split at h
         ·rename_i k3 rows2 ho2
          split at h
          ·rename_i hb2
           simp only[al9] at hb2
           have e4:=bw8 hb2.1.1.1
           have e5:=bw8 hb2.1.1.2
           subst e4
           simp only[aq8,Prod.mk.injEq] at h;obtain⟨rfl,rfl,rfl⟩:=h
           exact aops_append rows2 _ (askEl ht hT) (askSn ht hT') hb0.1 hb0.2 hw (evC_ok ha hx) (hh _ _ ho) e3 (evC_ok ha hy) (.own (hh _ _ ho2) e5 (fun row hr c hc=>by
            obtain⟨j,hj⟩:=aw9 hc
            exact ndB_at (ndR_ok hb2.1.2 row hr) hj)) rfl (by grind) (ar9 hb2.2) hN k
          grind
         grind
        ·rename_i hy
         split at h
         ·rename_i hb2
          simp only[aq8,Prod.mk.injEq] at h;obtain⟨rfl,rfl,rfl⟩:=h
          exact aops_append [] _ (askEl ht hT) (askSn ht hT') hb0.1 hb0.2 hw (evC_ok ha hx) (hh _ _ ho) e3 (evC_ok ha hy) .nil (aa8 _) e3 (ar9 hb2) hN k
         grind
        grind
       grind
      grind
     grind
    grind
   grind
  grind
 |_=>simp[oneY] at h
end
def apN(t:TT)(d:Nat)(e:Env)(hp:Heap)(nx:Nat):Op->Option (Env×Heap)
 | .call c=>(match c.callee,c.args.toList,c.argTypes.toList with
  | .builtin .append,[.tmp a,y],[T,T']=>(match gtC e a with
   |some (.con (.slice none 0 0))=>(match ask t T TF.qEl,ask t T' TF.qSn with
    |some (ety,k,bytes),some _=>(match Nat.blt 0 bytes&&Nat.blt 0 k with
     |true=>(match evC ((a,.own nx 0)::e) y with
      |some (.own id2 n2)=>(match hgC ((nx,.arr ety k [])::hp) id2 with
       |some (.arr _ k3 rows2)=>(match Nat.beq k3 k&&Nat.beq rows2.length n2&&ndR rows2&&Nat.ble (n2*bytes) 140737488355328 with
        |true=>some ([(d,.own (nx+1) n2),(a,.own nx 0)],[(nx+1,.arr ety k rows2),(nx,.dead)])
        |false=>none)
       |_=>none)
      |_=>none)
     |false=>none)
    |_,_=>none)
   |_=>none)
  |_,_,_=>none)
 |_=>none
theorem apN_ok{op:Op}{ty:TypeId}{pos:String}{after:Array Edge}{g:Option (Nat×Bool)}(ht:TTok K.P t){d:Nat}{e:Env}{hp:Heap}{nx:Nat}{ue:Env}{uh:Heap}(h:apN t d e hp nx op=some (ue,uh))(hg:g=none)(hN:Nat.blt d K.N=true)
    (k:AOps K ops rest Q ⟨ue++e,uh++hp,nx+2⟩):AOps K ops (⟨some d,op,ty,pos,after,g⟩::rest) Q ⟨e,hp,nx⟩:=by
  subst hg
  cases op<;>simp only[apN,reduceCtorEq] at h
  rename_i c
  obtain⟨callee,args,at'⟩:=c
  simp only at h
  split at h
  · rename_i a y T T' hargs hats
    have hargs:=toList_two hargs
    have hats:=toList_two hats
    subst hargs;subst hats
    split at h
    · rename_i hx
      split at h
      · rename_i ety kk bytes _ hT hT'
        split at h
        · rename_i hb0
          simp only[al9] at hb0
          split at h
          · rename_i id2 n2 hy
            split at h
            · rename_i k3 rows2 ho2
              split at h
              · rename_i hb2
                simp only[al9] at hb2
                have e4:=bw8 hb2.1.1.1
                have e5:=bw8 hb2.1.1.2
                subst e4
                simp only[aq8,Prod.mk.injEq] at h;obtain⟨rfl,rfl⟩:=h
                refine aops_ghost (ghost_nilE (S:=⟨e,hp,nx⟩) a ety k3 (gtC_ok hx)) ?_
                let S2:St:=⟨(a,.own nx 0)::e,(nx,.arr ety k3 [])::hp,nx+1⟩
                have hex:evl K S2 (.tmp a)=.own nx 0:=by show get ((a,.own nx 0)::e) a=_;rw[get_put,if_pos rfl]
                have hho:hget S2.hp nx=.arr ety k3 []:=by show hget ((nx,.arr ety k3 [])::hp) nx=_;rw[hget_put,if_pos rfl]
                refine aops_append (S:=S2) rows2 _ (askEl ht hT) (askSn ht hT') hb0.1 hb0.2 rfl hex hho rfl (evC_ok (agE (S:=S2)) hy) (.own (hgC_ok ho2) e5 (fun row hr c hc=>by
                        obtain⟨j,hj⟩:=aw9 hc
                        exact ndB_at (ndR_ok hb2.1.2 row hr) hj)) (ab9 _) e5 (ar9 hb2.2) hN ?_
                have gh:Ghost K ⟨(d,.own S2.nx n2)::S2.env,(S2.nx,.arr ety k3 rows2)::(nx,.dead)::S2.hp,S2.nx+1⟩ ⟨[(d,.own (nx+1) n2),(a,.own nx 0)]++e,[(nx+1,.arr ety k3 rows2),(nx,.dead)]++hp,nx+2⟩:=by
                  refine fun m β _ _ r=>⟨m,β,r.congr (fun _=>rfl) (fun t=>?_) rfl⟩
                  show hget ((nx+1,.arr ety k3 rows2)::(nx,.dead)::hp) t=hget ((nx+1,.arr ety k3 rows2)::(nx,.dead)::(nx,.arr ety k3 [])::hp) t
                  rw[hget_put,hget_put,hget_put,hget_put,hget_put]
                  split
                  · rfl
                  · split<;>rfl
                exact aops_ghost gh k
              · simp at h
            · simp at h
          · simp at h
        · simp at h
      · simp at h
    · simp at h
  · simp at h
end
section
variable{K:Ctx}{Q:Post}{S S':St}{ops:Array Oper}{rest:List Oper}{t:TT}
def putsE:Env->Env->Env
 |[],e=>e
 |(i,o)::u,e=>putE i o (putsE u e)
theorem get_putsE:∀(u e:Env) (t:Nat),get (putsE u e) t=get (u++e) t
 |[],e,t=>rfl
 |(i,o)::u,e,t=>by
  show get (putE i o (putsE u e)) t=get ((i,o)::(u++e)) t
  rw[get_putE,get_put,get_put,get_putsE u e]
def putsH:Heap->Heap->Heap
 |[],hp=>hp
 |(i,o)::u,hp=>putH i o (putsH u hp)
theorem hget_putsH:∀(u hp:Heap) (t:Nat),hget (putsH u hp) t=hget (u++hp) t
 |[],hp,t=>rfl
 |(i,o)::u,hp,t=>by
  show hget (putH i o (putsH u hp)) t=hget ((i,o)::(u++hp)) t
  rw[hget_putH,hget_put,hget_put,hget_putsH u hp]
def allNB(f:V->Bool):List V->Bool
 |[]=>true
 |x::l=>bif f x then allNB f l else false
def immN:Nat->V->Bool
 |0,_=>false
 |n+1,v=>(match v with
  | .con _=>true
  | .agg cs=>allNB (immN n) cs
  | .tup cs=>allNB (immN n) cs
  | .fn _ a b=>allNB (immN n) a&&allNB (immN n) b
  |_=>false)
theorem allN_ok{f:V->Bool}:∀{l:List V},allNB f l=true->∀x,x∈l->f x=true
 |[],_,x,hx=>by simp at hx
 |y::l,h,x,hx=>by
  simp only[allNB] at h
  cases hb:f y with
  |true=>
   rw[hb] at h;simp at h
   rcases am8.1 hx with rfl|hx
   ·exact hb
   ·exact allN_ok h x hx
  |false=>rw[hb] at h;simp at h
theorem immN_ok:∀{n:Nat} {v:V},immN n v=true->∀{m:Mem} {β:Locs} {x:Value},VRel m β v x->IRel m v x
 |0,v,h=>by simp[immN] at h
 |n+1,v,h=>by
  intro hv
  cases hv with
  |imm h=>exact h
  |agg hl hh=>
   simp only[immN] at h
   exact .agg hl fun i c v a b=>immN_ok (allN_ok h c (ar8 a)) (hh i c v a b)
  |tup hl hh=>
   simp only[immN] at h
   exact .tup hl fun i c v a b=>immN_ok (allN_ok h c (ar8 a)) (hh i c v a b)
  |fn hl hl' h1 h2=>
   simp only[immN,al9] at h
   exact .fn hl hl' (fun i c v a b=>immN_ok (allN_ok h.1 c (ar8 a)) (h1 i c v a b)) (fun i c v a b=>immN_ok (allN_ok h.2 c (ar8 a)) (h2 i c v a b))
  |_=>simp[immN] at h
def immB(v:V):Bool:=immN 12 v
theorem mut_pure{gl:Gl}{P:Program}{f:FuncId}{avs:List V}{v:V}{k':Nat}{hp':Heap}(h:MutG gl P f avs 0 [] v k' hp')(hv:immB v=true):PureG gl P f avs v:=by
 intro m w vs himm hgl hargs
 let β:Locs:=⟨fun _=>none,fun _ _=>False⟩
 refine(h m β w vs himm hgl ⟨hargs.len,fun i c v a b=>.imm (hargs.at' i c v a b)⟩ (fun id=>trivial) (fun id b cap hl=>absurd rfl hl) (fun id id' b cap cap' hl=>absurd rfl hl) (fun id x hl=>absurd rfl hl) (fun _ _=>rfl)).mono ?_
 rintro e w' ⟨x,m',β',rfl,hx,g⟩
 have hF:∀b,Foreign [] β b:=fun b id hl=>absurd rfl hl
 exact⟨x,m',rfl,immN_ok hv hx,g.le,g.imm,fun b hb=>(g.old b hb (hF b)).1,fun b hb=>(g.old b hb (hF b)).2,g.size,g.same⟩
def opX2:Op->List Operand
 | .slice _ x lo hi _=>x::(lo.toList++hi.toList)
 | .lookup _ x y _=>[x,y]
 | .mapUpdate _ x y z=>[x,y,z]
 | .insert _ x y z=>[x,y,z]
 | .buildSlice _ _ ps=>ps.toList.map (·.2)
 | .makeSlice _ x _=>[x]
 | .box _ x=>[x]
 | .makeFunc _ fs cs=>fs.toList++cs.toList
 | .makeInterface _ x=>[x]
 | .call c=>(match c.callee with | .invoke r _=>r::c.args.toList|_=>opX (.call c))
 |op=>opX op
def rdO2(ops:Array Oper)(o:Oper)(e:Env):Option Env:=match grd ops o (tps (opX2 o.op)) with|some l=>rdC e l|none=>none
theorem rdO2_ok{o:Oper}{e re:Env}(h:rdO2 ops o e=some re):RdE e re:=by
 grind [rdO2,rdC_ok]
def hrY(e:Env)(hp:Heap)(x:Operand)(l:Heap):Option Heap:=
 match evC e x with
 |some (.ptr id _ _ _)=>(match hgC hp id with|some ob=>some ((id,ob)::l)|none=>none)
 |some (.own id _)=>(match hgC hp id with|some ob=>some ((id,ob)::l)|none=>none)
 |some (.map id)=>(match hgC hp id with|some ob=>some ((id,ob)::l)|none=>none)
 |some _=>some l
 |none=>none
theorem hrY_ok{e:Env}{hp l rh:Heap}{x:Operand}(hl:RdH hp l)(h:hrY e hp x l=some rh):RdH hp rh:=by
 unfold hrY at h
 split at h
 ·split at h
  ·rename_i ho;simp at h;subst h;exact⟨hgC_ok ho,hl⟩
  grind
 ·split at h
  ·rename_i ho;simp at h;subst h;exact⟨hgC_ok ho,hl⟩
  grind
 ·split at h
  ·rename_i ho;simp at h;subst h;exact⟨hgC_ok ho,hl⟩
  grind
 ·grind
 grind
def hrL(e:Env)(hp:Heap):List Operand->Heap->Option Heap
 |[],l=>some l
 |x::xs,l=>match hrY e hp x l with|some l=>hrL e hp xs l|none=>none
theorem hrL_ok{e:Env}{hp rh:Heap}:∀{xs:List Operand} {l:Heap},RdH hp l->hrL e hp xs l=some rh->RdH hp rh
 |[],l,hl,h=>by simp_all[hrL]
 |x::xs,l,hl,h=>by
  simp only[hrL] at h
  split at h
  ·rename_i q hq;exact hrL_ok (hrY_ok hl hq) h
  ·simp at h
def hrO:Op->List Operand
 | .load _ x=>[x]
 | .store _ x _=>[x]
 | .lookup _ x _ _=>[x]
 | .slice _ x _ _ _=>[x]
 | .mapUpdate _ x _ _=>[x]
 | .insert _ x _ _=>[x]
 | .call c=>(match c.callee with | .builtin .append=>c.args.toList|_=>[])
 |_=>[]
def alY(t:TT)(e:Env)(id:Nat):Op->Option (V×Ob)
 | .alloc T=>(match ask t T TF.qZ with
  |some (n,zs)=>some (.ptr id n 0 0,.arr T n [zs.map .con])
  |none=>none)
 | .box T x=>(match ask t T TF.qS with
  |some n=>(match evC e x with
   |some v=>(match vcC v with
    |some cs=>(match lenIs n cs&&allB cs with|true=>some (.ptr id n 0 0,.arr T n [cs])|false=>none)
    |none=>none)
   |none=>none)
  |none=>none)
 | .makeMap _ r=>(match r with|none=>some (.map id,.map [])|some _=>none)
 | .buildSlice T n parts=>(match ask t T TF.qEl with
  |some (ety,k,_)=>(match n with
   |0=>(match parts.toList with|[]=>some (.own id 0,.arr ety k [])|_=>none)
   |n'+1=>(match ask t ety TF.qZ with
    |some (_,zs)=>(match evP e parts.toList with
     |some ps=>(match fillV (fun i=>some (i*k,k)) (((List.range ((n'+1)*k)).map fun i=>zs.getD (i % k) undef).map .con) ps with
      |some cs=>(match Nat.beq cs.length ((n'+1)*k)&&rowsK k (chop k (n'+1) cs)&&Nat.blt 0 k&&Nat.ble ((n'+1)*k) 16777216 with
       |true=>some (.own id (n'+1),.arr ety k (chop k (n'+1) cs))
       |false=>none)
      |none=>none)
     |none=>none)
    |none=>none))
  |none=>none)
 | .makeSlice T x y=>(match ask t T TF.qEl with
  |some (ety,k,bytes)=>(match ask t ety TF.qZ with
   |some (_,zs)=>(match x,y with
    | .tmp a,.tmp b=>(match Nat.beq a b,evC e x with
     |true,some (.con (.int .i64 n))=>(match n with
      | .ofNat j=>(match Nat.ble (bytes*j) 140737488355328&&Nat.ble j 140737488355328&&Nat.blt 0 k with
       |true=>some (.own id j,.arr ety k (List.replicate j (zs.map .con)))
       |false=>none)
      |_=>none)
     |_,_=>none)
    |_,_=>none)
   |none=>none)
  |none=>none)
 |_=>none
theorem alY_ok{op:Op}{ty:TypeId}{pos:String}{after:Array Edge}{g:Option (Nat×Bool)}(ht:TTok K.P t){d id nx:Nat}{e:Env}{v:V}{ob:Ob}(ha:Ag e S)(h:alY t e id op=some (v,ob))(hid:(Nat.blt id nx&&Nat.ble K.pins id)=true)(hnx:S.nx=nx)(hres:hget S.hp id=.res)
  (hw:Wants ops S ⟨some d,op,ty,pos,after,g⟩ true) (hN:Nat.blt d K.N=true) (k:AOps K ops rest Q ⟨(d,v)::S.env,(id,ob)::S.hp,S.nx⟩):AOps K ops (⟨some d,op,ty,pos,after,g⟩::rest) Q S:=by
 cases op with
 |alloc T=>
  simp only[alY] at h
  split at h
  ·rename_i n zs hz
   obtain⟨z1,z2,z3⟩:=askZ ht hz<;>grind [aops_alloc_at]
  grind
 |box T x=>
  simp only[alY] at h
  split at h
  ·split at h
   ·rename_i hv
    split at h
    ·rename_i cs hc
     split at h
     ·rename_i hb
      simp only[al9] at hb
      have hl:=lenIs_ok hb.1
      subst hl
      simp only[aq8,Prod.mk.injEq] at h;obtain⟨rfl,rfl⟩:=h
      exact aops_box_at id hid hnx hres cs hw (evC_ok ha hv) (vcC_ok hc) (allB_ok hb.2) hN k
     grind
    grind
   grind
  grind
 |makeMap T r=>
  simp only[alY] at h
  grind [aops_makeMap_at]
 |buildSlice T n parts=>
  simp only[alY] at h
  split at h
  ·rename_i ety kk bytes hT
   split at h
   ·split at h
    ·rename_i hp0
     have:=toArray_eq hp0
     subst this
     simp only[aq8,Prod.mk.injEq] at h;obtain⟨rfl,rfl⟩:=h
     exact aops_emptySlice_at id hid hnx hres (askEl ht hT) hw hN k
    grind
   ·rename_i n'
    split at h
    ·rename_i zs hz
     split at h
     ·rename_i ps hps
      split at h
      ·rename_i cs hcs
       split at h
       ·rename_i hb
        simp only[al9] at hb
        have e1:=bw8 hb.1.1.1
        obtain⟨z1,z2,z3⟩:=askZ ht hz
        simp only[aq8,Prod.mk.injEq] at h;obtain⟨rfl,rfl⟩:=h
        exact aops_buildSlice_at id hid hnx hres ps _ (askEl ht hT) z1 hw z3 hb.1.2 rfl hb.2 (evP_ok ha hps) (by simp_all[flat_chop]) (chop_len _ _) (rowsK_ok hb.1.1.2) hN k
       grind
      grind
     grind
    grind
  grind
 |makeSlice T x y=>
  simp only[alY] at h
  split at h
  ·rename_i ety kk bytes hT
   split at h
   ·rename_i zs hz
    split at h
    ·rename_i a b
     split at h
     ·rename_i n hab hx
      have hab:=bw8 hab
      subst hab
      split at h
      ·rename_i j
       split at h
       ·rename_i hb
        simp only[al9] at hb
        obtain⟨z1,z2,z3⟩:=askZ ht hz
        simp only[aq8,Prod.mk.injEq] at h;obtain⟨rfl,rfl⟩:=h
        have b1:=ar9 hb.1.1
        have b2:=ar9 hb.1.2
        have c1:((bytes*j:Nat):Int)<=((140737488355328:Nat):Int):=Int.ofNat_le.2 b1
        have c2:((j:Nat):Int)<=((140737488355328:Nat):Int):=Int.ofNat_le.2 b2
        rw[Int.natCast_mul] at c1
        exact aops_makeSlice_at id hid hnx hres _ (askEl ht hT) z1 z3 hb.2 ⟨Int.natCast_nonneg j,c1,c2⟩ rfl rfl hw (evC_ok ha hx) hN k
       grind
      grind
     grind
    grind
   grind
  grind
 |_=>simp[alY] at h
def wrM(mt:List MT)(e:Env)(hp:Heap)(T:TypeId)(x y z:Operand):Option (Nat×Ob):=
 match mtf mt T with
 |some p=>(match evC e x with
  |some (.map id)=>(match hgC hp id with
   |some (.map es)=>(match evC e y with
    |some (.con kv)=>(match isKey p.txt p.ik kv&&allK p.txt p.ik es with
     |true=>(match evC e z with
      |some v=>(match putsC kv v es with|some es'=>some (id,.map es')|none=>none)
      |none=>none)
     |false=>none)
    |_=>none)
   |_=>none)
  |_=>none)
 |none=>none
theorem wrM_ok{op:Op}{T:TypeId}{x y z:Operand}(hop:op=.mapUpdate T x y z\/op=.insert T x y z){ty:TypeId}{pos:String}{after:Array Edge}{g:Option (Nat×Bool)}{mt:List MT}(hmt:MTok K.P mt){e:Env}{hp:Heap}{id:Nat}{ob:Ob}(ha:Ag e S)(hh:AgH hp S)(h:wrM mt e hp T x y z=some (id,ob))(hw:Wants ops S ⟨none,op,ty,pos,after,g⟩ true)
  (k:AOps K ops rest Q ⟨S.env,(id,ob)::S.hp,S.nx⟩):AOps K ops (⟨none,op,ty,pos,after,g⟩::rest) Q S:=by
 unfold wrM at h
 split at h
 ·rename_i p hp0
  obtain⟨hm,hTe⟩:=mtf_ok hmt hp0
  subst hTe
  split at h
  ·rename_i id hx
   split at h
   ·rename_i es ho
    split at h
    ·rename_i kv hy
     split at h
     ·rename_i hb
      simp only[al9] at hb
      split at h
      ·rename_i v hz
       split at h
       ·rename_i es' hp'
        simp only[aq8,Prod.mk.injEq] at h;obtain⟨rfl,rfl⟩:=h
        exact aops_mapPut hop es' hm.h1 hm.h2 hw (evC_ok ha hx) (hh _ _ ho) (.con (evC_ok ha hy)) (isKey_ok hb.1) (allK_ok hb.2) (evC_ok ha hz) (putsC_ok hp') k
       grind
      grind
     grind
    grind
   grind
  grind
 grind
def wrY(t:TT)(mt:List MT)(e:Env)(hp:Heap)(op:Op):Option (Nat×Ob):=
 match op with
 | .mapUpdate T x y z=>wrM mt e hp T x y z
 | .insert T x y z=>wrM mt e hp T x y z
 |op=>stoR t e hp op
theorem wrY_ok{op:Op}{ty:TypeId}{pos:String}{after:Array Edge}{g:Option (Nat×Bool)}(ht:TTok K.P t){mt:List MT}(hmt:MTok K.P mt){e:Env}{hp:Heap}{id:Nat}{ob:Ob}(ha:Ag e S)(hh:AgH hp S)(h:wrY t mt e hp op=some (id,ob))(hw:Wants ops S ⟨none,op,ty,pos,after,g⟩ true)
  (k:AOps K ops rest Q ⟨S.env,(id,ob)::S.hp,S.nx⟩):AOps K ops (⟨none,op,ty,pos,after,g⟩::rest) Q S:=by
 unfold wrY at h
 split at h
 ·grind [wrM_ok]
 ·exact wrM_ok (.inr rfl) hmt ha hh h hw k
 grind [stoR_ok]
theorem clD_run0{e:Env}(ha:Ag e S){o:Oper}{f:Nat}{avs:List V}(h:clD e o.op=some (f,avs))(hf:fnOk K.P f=true):
  ∀m β w a,Rel K m β w a S->∃vs:Array Value,(execOp a.eval o).run K.P w=.ok (.enter f vs) w/\VRels m β avs vs:=by
 obtain⟨dst,op,ty',pos,after,g⟩:=o
 cases op<;>simp_all[clD]
 rename_i c
 obtain⟨callee,args,at'⟩:=c
 simp only at h
 split at h
 ·rename_i x
  split at h
  ·rename_i first caps hx
   split at h
   ·split at h
    ·rename_i vs hv
     split at h
     ·rename_i q hq
      simp only[aq8,Prod.mk.injEq] at h
      obtain⟨rfl,rfl⟩:=h
      have hq:=frc_ok hq
      have hv:=evL_ok (K:=K) ha hv
      exact mcallv_run hf (evC_ok ha hx) (by grind)
     grind
    grind
   grind
  grind
 grind
def clX(t:TT)(e:Env)(op:Op):Option (Nat×List V):=match clD e op with|some r=>some r|none=>clI t e op
theorem clX_run0(ht:TTok K.P t){e:Env}(ha:Ag e S){o:Oper}{f:Nat}{avs:List V}(h:clX t e o.op=some (f,avs))(hf:fnOk K.P f=true):
  ∀m β w a,Rel K m β w a S->∃vs:Array Value,(execOp a.eval o).run K.P w=.ok (.enter f vs) w/\VRels m β avs vs:=by
 grind [clX,clD_run0,clI_run0]
end
end Go.Pv
