/- Part of the proof: K8P5, K8P6, K8P7a, K8P7b, K8P7c, K8P7d, K8P7, ZP8a, ZP8b. -/
import Derived.Test.YtpbkggamiipdmaaGreatR8KW
namespace Go.Proofs.YtpbkggamiipdmaaGreat
open Go Go.Pv
set_option linter.unusedVariables false
def pick{α:Type}(f:α->Tx):List α->List Bool->List Tx
 |x::xs,b::l=>if b=true then f x::pick f xs l else pick f xs l
 |_,_=>[]
theorem z5m{g:q3c}{how:Int}{fs:List Tx}(h:opnE g how fs=0):q5g g/\(how=1\/how=2):=by
 unfold opnE at h
 split at h
 ·rename_i h1;exact absurd h h1
 ·rename_i h1
  split at h
  ·rename_i h2;exact absurd h h2
  ·split at h
   ·rename_i h3;exact⟨right_of (by simpa using h1),h3⟩
   ·simp at h
structure Ans(g:q3c)(how:Int)(fs:List Tx)(r m u:List Tx):Prop where
 rs:r.Pairwise (fun a b=>Op.bytesLess a b=true)
 ms:m.Pairwise (fun a b=>Op.bytesLess a b=true)
 us:u.Pairwise (fun a b=>Op.bytesLess a b=true)
 r:∀x,x∈r<->RN g how (onF fs) false x
 m:∀x,x∈m<->RN g how (onF fs) true x
 u:∀c,c∈u<->∃x,x∈g.Funcs/\RN g how (onF fs) false x.Name/\x.Component=c
theorem cpt_memI(l:List Int)(x:Int):x∈cpt l<->x∈l:=by
 unfold cpt Lib.compact Lib.compactUpTo
 rw[List.mem_map]
 constructor
 ·rintro⟨j,hj,rfl⟩
  have hlt:=List.mem_range.1 (List.mem_filter.1 hj).1
  rw[getElem!_pos l.toArray j (by simpa using hlt)]
  simp
 ·intro hx
  have key:∀j,j<l.length->∃i,i<=j/\Lib.keeps l.toArray i=true/\l.toArray[i]! = l.toArray[j]! := by
   intro j
   induction j with
   |zero=>exact fun _=>⟨0,Nat.le_refl _,by simp[Lib.keeps],rfl⟩
   |succ j ih=>
    intro hj
    by_cases he:l.toArray[j+1]! = l.toArray[j]!
    ·obtain⟨i,h1,h2,h3⟩:=ih (by omega)
     exact⟨i,by omega,h2,h3.trans he.symm⟩
    ·exact⟨j+1,Nat.le_refl _,by simp only[Lib.keeps,Nat.add_sub_cancel];exact decide_eq_true (.inr he),rfl⟩
  obtain⟨j,hj,rfl⟩:=List.getElem_of_mem hx
  obtain⟨i,h1,h2,h3⟩:=key j hj
  refine⟨i,List.mem_filter.2 ⟨List.mem_range.2 (by omega),h2⟩,?_⟩
  rw[h3,getElem!_pos l.toArray j (by simpa using hj)]
  simp
theorem cpt_srtI{l:List Int}(h:l.Pairwise (·<=·)):(cpt l).Pairwise (·<·):=by
 unfold cpt Lib.compact Lib.compactUpTo
 rw[List.pairwise_map]
 have hr:((List.range l.length).filter (Lib.keeps l.toArray)).Pairwise (·<·):=List.pairwise_lt_range.filter _
 refine List.Pairwise.imp_of_mem ?_ hr
 intro i j hi hj hlt
 have hj1:=List.mem_range.1 (List.mem_filter.1 hj).1
 have hj2:=(List.mem_filter.1 hj).2
 simp only[Lib.keeps,decide_eq_true_eq] at hj2
 have hne:l.toArray[j]! ≠ l.toArray[j - 1]! := hj2.resolve_left (by omega)
 rw[getElem!_pos l.toArray j (by simpa using hj1),getElem!_pos l.toArray (j - 1) (by simp;omega)] at hne
 rw[getElem!_pos l.toArray i (by simp;omega),getElem!_pos l.toArray j (by simpa using hj1)]
 simp only[List.getElem_toArray] at hne ⊢
 rw[List.pairwise_iff_getElem] at h
 have a1:l[j - 1]<=l[j]:=h (j - 1) j (by omega) hj1 (by omega)
 have a2:l[i]<=l[j - 1]:=by
  by_cases e:i=j - 1
  ·subst e;exact Int.le_refl _
  ·exact h i (j - 1) (by omega) (by omega) (by omega)
 omega
theorem q0n(l:List Int):(isort l).Perm l:=List.mergeSort_perm _ _
theorem isort_srt(l:List Int):(isort l).Pairwise (·<=·):=by
 have:=List.pairwise_mergeSort (le:=fun x y:Int=>decide (x<=y)) (fun a b c h h'=>by simp only[decide_eq_true_eq] at *;omega) (fun a b=>by simp only[Bool.or_eq_true,decide_eq_true_eq];omega) l
 exact this.imp (fun h=>by simpa using h)
theorem M125_eq(F:Nat)(g:q3c)(n:Tx):M125 F g n=some (match g.Funcs.find? fun x=>x.Name==n with|some x=>(x,true)|none=>(q5e.mk [] [] [] [],false)):=by
 have key:∀l:List q5e,z0l F n (some (q5e.mk [] [] [] [],false)) l=some (match l.find? fun x=>x.Name==n with|some x=>(x,true)|none=>(q5e.mk [] [] [] [],false)):=by
  intro l
  induction l with
  |nil=>rfl
  |cons x l ih=>
   rw[z0l,List.find?_cons]
   by_cases h:(x.Name==n)=true
   ·rw[if_pos h,h]
   ·rw[if_neg h,ih]
    have:(x.Name==n)=false:=by simpa using h
    rw[this]
 unfold M125
 rw[q3e,key]
theorem M92_1_L1_eq(F:Nat)(w:q8a)(c:q8c)(k:List Int->Option (List Int))(f:Int->Int):∀(l:List Int) (o:List Int),(∀t,t∈l->z7d F w c t=some (f t))->o.length+l.length<=100000->q7w F w c k l o=k (o++l.map f)
 |[],o,_,_=>by simp[q7w]
 |t::l,o,h,hl=>by
  simp only[List.length_cons] at hl
  rw[q7w,h t (by simp),Option.bind_some,if_pos (by simp;omega),M92_1_L1_eq F w c k f l _ (fun t ht=>h t (List.mem_cons_of_mem _ ht)) (by simp;omega)]
  simp
structure TgtOk(g:q3c)(c:q8c)(l:List Int):Prop where
 srt:l.Pairwise (·<·)
 len:l.length<=500
 nat:∀v,v∈l->∃i:Nat,i<g.Funcs.length/\v=i
 mem:∀i:Nat,∀h:i<g.Funcs.length,(i:Int)∈l<->∃a,a∈q5j g c/\a.to=(g.Funcs[i]).Name
theorem cpt_lenI(l:List Int):(cpt l).length<=l.length:=cpt_len l
theorem M92_1_eq(F:Nat)(hF:1000<=F){g:q3c}(R:q5g g)(how:Int)(fs:List Tx){x:q5e}(hx:x∈g.Funcs){c:q8c}(hc:c∈x.Calls):∃l,M92_1 F (wOf g how fs) c=some l/\TgtOk g c l:=by
 unfold M92_1
 by_cases k:c.Kind=1
 ·rw[if_pos (by simp[k])]
  have ha:q3a.mk [] c.Target∈q5j g c:=by unfold q5j;rw[if_pos k];simp
  obtain⟨i,hi,he⟩:=q9q (q5t R hx hc ha)
  have he:(g.Funcs[i]).Name=c.Target:=he
  have hf:(q8b (wOf g how fs).funcs c.Target).getD 0=(i:Int):=by rw[<-he];exact q4s R how fs hi
  refine⟨_,rfl,by simp,by simp,fun v hv=>?_,fun j hj=>?_⟩
  ·simp only[List.mem_singleton] at hv;rw[hf] at hv;exact⟨i,hi,hv⟩
  ·simp only[List.mem_singleton]
   rw[hf]
   unfold q5j
   rw[if_pos k]
   simp only[List.mem_singleton]
   constructor
   ·intro h
    have:j=i:=by omega
    subst this
    exact⟨_,rfl,he.symm⟩
   ·rintro⟨a,rfl,h⟩
    have h:c.Target=(g.Funcs[j]).Name:=h
    have h1:=q4s R how fs hj
    rw[<-h,<-he,q4s R how fs hi] at h1
    omega
 ·rw[if_neg (by simpa using k),q3e]
  obtain⟨I,I1,I2,I3,I4⟩:=dis_aim R hx hc k
  have hfit:∀t,t∈fitL (wOf g how fs) c.Target<->∃j:Nat,∃h:j<g.Types.length,t=j/\fitB g.Types[j] I=true:=fit_iff R how fs I2
  have hlen:(fitL (wOf g how fs) c.Target).length<=500:=by
   have e:fitL (wOf g how fs) c.Target=q5l I 0 g.Types:=by
    unfold fitL wOf
    simp only
    rw[z8g g.Types c.Target g.Ifaces [] R.isrt]
    simp only[q8b,Option.getD_none,List.nil_append]
    rw[I2];rfl
   rw[e]
   have:=fitIdx_len I g.Types 0
   have:=R.tl
   omega
  let f:Int->Int:=fun t=>fI (wOf g how fs) (mOf (g.Types.getD t.toNat (q0i.mk [] [])) c.Method).1
  have hm:∀t,t∈fitL (wOf g how fs) c.Target->z7d F (wOf g how fs) c t=some (f t):=by
   intro t ht
   obtain⟨j,hj,rfl,_⟩:=(hfit t).1 ht
   rw[M151_at hF R how fs c hj]
   simp only[f,Int.toNat_natCast,List.getD_eq_getElem?_getD,List.getElem?_eq_getElem hj,Option.getD_some]
  have e:=M92_1_L1_eq F (wOf g how fs) c (fun l5=>(M152 F l5).bind fun y17=>if y17.length=l5.length then (M153 F y17).bind fun y20=>some y20 else none) f (fitL (wOf g how fs) c.Target) [] hm (by simp;omega)
  refine⟨cpt (isort ((fitL (wOf g how fs) c.Target).map f)),?_,cpt_srtI (isort_srt _),?_,?_,?_⟩
  ·refine e.trans ?_
   simp only[List.nil_append]
   unfold M152
   rw[if_pos (by simp;omega),Option.bind_some,if_pos (q0n _).length_eq]
   unfold M153
   rw[if_pos (by rw[(q0n _).length_eq];simp;omega),Option.bind_some]
  ·have:=cpt_lenI (isort ((fitL (wOf g how fs) c.Target).map f))
   rw[(q0n _).length_eq,List.length_map] at this
   omega
  ·intro v hv
   rw[cpt_memI,(q0n _).mem_iff] at hv
   obtain⟨t,ht,rfl⟩:=List.mem_map.1 hv
   obtain⟨j,hj,rfl,hft⟩:=(hfit t).1 ht
   have ha:q3a.mk (g.Types[j]).Name (mOf g.Types[j] c.Method).1∈q5j g c:=by
    unfold q5j
    rw[if_neg k]
    exact List.mem_filterMap.2 ⟨g.Types[j],List.getElem_mem _,by unfold aimO;rw[if_pos ⟨I4 _ hft,by rw[I3];exact hft⟩]⟩
   obtain⟨q,hq,he⟩:=q9q (q5t R hx hc ha)
   have he:(g.Funcs[q]).Name=(mOf g.Types[j] c.Method).1:=he
   refine⟨q,hq,?_⟩
   simp only[f,Int.toNat_natCast,List.getD_eq_getElem?_getD,List.getElem?_eq_getElem hj,Option.getD_some]
   rw[<-he];exact q4s R how fs hq
  ·intro i hi
   rw[cpt_memI,(q0n _).mem_iff,List.mem_map]
   constructor
   ·rintro⟨t,ht,he⟩
    obtain⟨j,hj,rfl,hft⟩:=(hfit t).1 ht
    have ha:q3a.mk (g.Types[j]).Name (mOf g.Types[j] c.Method).1∈q5j g c:=by
     unfold q5j
     rw[if_neg k]
     exact List.mem_filterMap.2 ⟨g.Types[j],List.getElem_mem _,by unfold aimO;rw[if_pos ⟨I4 _ hft,by rw[I3];exact hft⟩]⟩
    obtain⟨q,hq,hqe⟩:=q9q (q5t R hx hc ha)
    have hqe:(g.Funcs[q]).Name=(mOf g.Types[j] c.Method).1:=hqe
    simp only[f,Int.toNat_natCast,List.getD_eq_getElem?_getD,List.getElem?_eq_getElem hj,Option.getD_some] at he
    rw[<-hqe,q4s R how fs hq] at he
    have:q=i:=by omega
    subst this
    exact⟨_,ha,hqe.symm⟩
   ·rintro⟨a,ha,he⟩
    unfold q5j at ha
    rw[if_neg k] at ha
    obtain⟨t,ht,h⟩:=List.mem_filterMap.1 ha
    unfold aimO at h
    split at h
    ·rename_i h1
     simp only[Option.some.injEq] at h
     subst h
     obtain⟨j,hj,rfl⟩:=List.getElem_of_mem ht
     refine⟨j,(hfit _).2 ⟨j,hj,rfl,by rw[<-I3];exact h1.2⟩,?_⟩
     simp only[f,Int.toNat_natCast,List.getD_eq_getElem?_getD,List.getElem?_eq_getElem hj,Option.getD_some]
     have he:(mOf g.Types[j] c.Method).1=(g.Funcs[i]).Name:=he
     rw[he];exact q4s R how fs hi
    ·simp at h
theorem nums_none{l:List Tx}{x:Tx}(h:x ∉ l):q8b (nums [] 0 l) x=none:=by rw[nums_other x l [] 0 h];rfl
def z1a(p:Nat->Bool)(l l':List Bool):Prop:=l'.length=l.length/\∀i (h:i<l.length),l'[i]? = some (l[i]||p i)
theorem z1a.refl{p:Nat->Bool}{l:List Bool}(h:∀i,i<l.length->p i=false):z1a p l l:=⟨rfl,fun i hi=>by rw[List.getElem?_eq_getElem hi,h i hi,Bool.or_false]⟩
theorem z1a.trans{p q:Nat->Bool}{l l' l'':List Bool}(a:z1a p l l')(b:z1a q l' l''):z1a (fun i=>p i||q i) l l'':=
 ⟨b.1.trans a.1,fun i hi=>by
  have hi':i<l'.length:=by rw[a.1];exact hi
  rw[b.2 i hi']
  have:=a.2 i hi
  rw[List.getElem?_eq_getElem hi',Option.some.injEq] at this
  rw[this,Bool.or_assoc]⟩
theorem z1a.congr{p q:Nat->Bool}{l l':List Bool}(a:z1a p l l')(h:∀i,i<l.length->p i=q i):z1a q l l':=⟨a.1,fun i hi=>by rw[a.2 i hi,h i hi]⟩
theorem z1a.uniq{p:Nat->Bool}{l l' l'':List Bool}(a:z1a p l l')(b:z1a p l l''):l'=l'':=by
 apply List.ext_getElem?
 intro i
 by_cases hi:i<l.length
 ·rw[a.2 i hi,b.2 i hi]
 ·rw[List.getElem?_eq_none (by rw[a.1];omega),List.getElem?_eq_none (by rw[b.1];omega)]
theorem z1a.set{l:List Bool}{j:Nat}(hj:j<l.length):z1a (fun i=>decide (i=j)) l (l.set j true):=
 ⟨by simp,fun i hi=>by
  rw[List.getElem?_set]
  by_cases h:j=i
  ·subst h;simp[hi]
  ·rw[if_neg h,List.getElem?_eq_getElem hi]
   have:decide (i=j)=false:=by simp;omega
   simp only[this,Bool.or_false]⟩
def rbL(rl:List Tx)(g:q3c):Option Tx->List q6c->Bool
 |_,[]=>true
 |p,m::l=>(p.elim true fun t=>Op.bytesLess t m.Type_)&&(rl.contains m.Func&&(((g.Funcs.find? fun x=>x.Name==m.Func).elim false fun x=>x.Makes.contains m.Type_)&&rbL rl g (some m.Type_) l))
def prvM(a:List q6c)(n:Nat):Option Tx:=if n=0 then none else (a[n - 1]?).map (·.Type_)
theorem prvM_next{a:List q6c}{x:q6c}{n:Nat}(hn:n<a.length)(hx:a[n]=x):prvM a (n+1)=some x.Type_:=by
 unfold prvM
 rw[if_neg (by omega),Nat.add_sub_cancel,List.getElem?_eq_getElem hn,hx];rfl
def callF(fs:List Tx)(x:q5e)(h:q6k):Option q8c:=
 if h.Site.Func=x.Name/\0<=h.Site.Call then (x.Calls[h.Site.Call.toNat]?).bind fun c=>if onF fs c.Feature=true then some c else none else none
def q6p(g:q3c)(c:q8c)(to:Tx):List q3a:=(q5j g c).filter fun a=>a.to==to
def mkP(g:q3c)(c:q8c)(to:Tx)(m:q6c):Bool:=(q6p g c to).any fun a=>!(a.typ==([]:Tx))&&m.Type_==a.typ
def mkI(g:q3c)(c:q8c)(to:Tx)(M:List q6c)(i:Nat):Bool:=(M[i]?).elim false (mkP g c to)
theorem find_none{g:q3c}{x:Tx}(h:q8s g x=false):g.Funcs.find? (fun y=>y.Name==x)=none:=by
 rw[List.find?_eq_none]
 intro y hy hye
 have:q8s g x=true:=in_names.2 ⟨y,hy,by simpa using hye⟩
 rw[h] at this;simp at this
theorem find_at{g:q3c}(R:q5g g){i:Nat}(hi:i<g.Funcs.length):g.Funcs.find? (fun y=>y.Name==(g.Funcs[i]).Name)=some g.Funcs[i]:=q8o (f:=q5e.Name) R.fsrt (List.getElem_mem _)
theorem fget_at{g:q3c}(R:q5g g)(how:Int)(fs:List Tx){i:Nat}(hi:i<g.Funcs.length):q8b (wOf g how fs).funcs (g.Funcs[i]).Name=some (i:Int):=by
 show q8b (nums [] 0 (g.Funcs.map (·.Name))) _=_
 have:=q4z (g.Funcs.map (·.Name)) [] 0 i (by simpa using hi) (q8x R.fsrt)
 simp only[List.getElem_map] at this
 rw[this];simp
theorem z8c{g:q3c}(how:Int)(fs:List Tx){x:Tx}(h:q8s g x=false):q8b (wOf g how fs).funcs x=none:=nums_none (by simpa[q8s] using h)
theorem tget_at{g:q3c}(R:q5g g)(how:Int)(fs:List Tx){i:Nat}(hi:i<g.Types.length):q8b (wOf g how fs).types (g.Types[i]).Name=some (i:Int):=by
 show q8b (nums [] 0 (g.Types.map (·.Name))) _=_
 have:=q4z (g.Types.map (·.Name)) [] 0 i (by simpa using hi) (q8x R.tsrt)
 simp only[List.getElem_map] at this
 rw[this];simp
theorem tget_none{g:q3c}(how:Int)(fs:List Tx){x:Tx}(h:tsOf g x=false):q8b (wOf g how fs).types x=none:=nums_none (by simpa[tsOf] using h)
section
variable{g:q3c}{how:Int}{fs:List Tx}{F:Nat}{rl:List Tx}{sp:q2c}
theorem M162_L1_eq(R:q5g g)(hsl:sp.funcs.length=g.Funcs.length)(hsp:∀i:Nat,∀h:i<g.Funcs.length,tru sp.funcs i<->(g.Funcs[i]).Name∈rl)(hrl:∀x,x∈rl->q8s g x=true)(a:List q6c)(ha:a.length<=maxLen)(k:Option Bool):
  ∀(l:List q6c) (n:Nat),a.drop n=l->z3a F (wOf g how fs) sp a k l (n:Int)=if rbL rl g (prvM a n) l=true then k else some false
 |[],n,_=>by simp[z3a,rbL]
 |m::l,n,h=>by
  obtain⟨hn,h1,h2⟩:=q5v h
  have ih:=M162_L1_eq R hsl hsp hrl a ha k l (n+1) h2
  rw[prvM_next hn h1] at ih
  have ih:z3a F (wOf g how fs) sp a k l ((n:Int)+1)=if rbL rl g (some m.Type_) l=true then k else some false:=ih
  rw[z3a,rbL]
  simp only[q3e]
  by_cases hf:q8s g m.Func=true
  ·obtain⟨i,hi,he⟩:=q9q hf
   have hg1:q8b (wOf g how fs).funcs m.Func=some (i:Int):=by rw[<-he];exact fget_at R how fs hi
   have hfd:(g.Funcs.find? fun x=>x.Name==m.Func)=some g.Funcs[i]:=by rw[<-he];exact find_at R hi
   rw[hg1,hfd]
   simp only[Option.isSome_some,Bool.not_true,Bool.false_eq_true,if_false,Option.getD_some,Option.elim_some]
   by_cases ht:tsOf g m.Type_=true
   ·obtain⟨j,hj,hje⟩:=ts_at ht
    have hg2:q8b (wOf g how fs).types m.Type_=some (j:Int):=by rw[<-hje];exact tget_at R how fs hj
    rw[hg2]
    simp only[Option.isSome_some,Bool.not_true,Bool.false_eq_true,if_false]
    have hb:idx sp.funcs (i:Int)=some (rl.contains m.Func):=by
     have hlt:i<sp.funcs.length:=by omega
     rw[q1h hlt]
     congr 1
     have:=hsp i hi
     rw[he] at this
     unfold tru at this
     rw[List.getElem?_eq_getElem hlt] at this
     rw[Bool.eq_iff_iff,List.contains_iff_mem,<-this];simp
    have hF:idx (wOf g how fs).g.Funcs (i:Int)=some g.Funcs[i]:=q1h hi
    have tail:∀K:Option Bool,((idx sp.funcs (i:Int)).bind fun x40=>if (!x40)=true then some false else (idx (wOf g how fs).g.Funcs (i:Int)).bind fun x43=>(M23 F x43.Makes m.Type_).bind fun y45=>if (!y45)=true then some false else K) =
      if (rl.contains m.Func&&(g.Funcs[i]).Makes.contains m.Type_)=true then K else some false:=by
     intro K
     rw[hb,Option.bind_some]
     cases rl.contains m.Func
     ·simp
     ·simp only[Bool.not_true,Bool.false_eq_true,if_false,Bool.true_and]
      rw[hF,Option.bind_some,M23_eq,Option.bind_some]
      cases (g.Funcs[i]).Makes.contains m.Type_<;>simp
    by_cases h0:n=0
    ·subst h0
     rw[if_neg (by simp),tail,ih]
     have:prvM a 0=none:=rfl
     rw[this]
     simp only[Option.elim_none,Bool.true_and]
     cases rl.contains m.Func<;>cases (g.Funcs[i]).Makes.contains m.Type_<;>simp
    ·have hw:w64 ((n:Int) - 1)=((n - 1:Nat):Int):=by
      rw[z6b (by omega) (by unfold maxLen at ha;omega)];omega
     rw[if_pos (by simp;omega),hw,q1h (show n - 1<a.length by omega),Option.bind_some]
     have hp:prvM a n=some (a[n - 1]).Type_:=by unfold prvM;rw[if_neg h0,List.getElem?_eq_getElem (by omega)];rfl
     rw[hp]
     simp only[Option.elim_some]
     generalize hq:(a[n - 1]).Type_=q
     have hb2:Op.bytesLess q m.Type_ = !(Op.bytesLess m.Type_ q||m.Type_==q):=(bl_gt _ _).symm
     simp only[hb2]
     cases hc:(Op.bytesLess m.Type_ q||m.Type_==q)
     ·simp only[Bool.false_eq_true,if_false,Bool.not_false,Bool.true_and]
      rw[tail,ih]
      cases rl.contains m.Func<;>cases (g.Funcs[i]).Makes.contains m.Type_<;>simp
     ·simp
   ·have ht':tsOf g m.Type_=false:=by simpa using ht
    rw[tget_none how fs ht']
    have:(g.Funcs[i]).Makes.contains m.Type_=false:=by
     cases hcc:(g.Funcs[i]).Makes.contains m.Type_ with
     |false=>rfl
     |true=>
      have:=(R.f _ (List.getElem_mem hi)).makes m.Type_ (by simpa using hcc)
      rw[ht'] at this;simp at this
    simp only[this];simp
  ·have hf':q8s g m.Func=false:=by simpa using hf
   rw[z8c how fs hf']
   have:rl.contains m.Func=false:=by
    cases hcc:rl.contains m.Func with
    |false=>rfl
    |true=>exact absurd (hrl _ (by simpa using hcc)) hf
   simp only[this];simp
theorem M163_eq(R:q5g g)(h:q6k){i:Nat}(hi:i<g.Funcs.length):
  ∃c0,M163 F (wOf g how fs) h (g.Funcs[i]).Name=some (match callF fs g.Funcs[i] h with|some c=>(c,true)|none=>(c0,false)):=by
 unfold M163 callF
 rw[fget_at R how fs hi]
 simp only[Option.isSome_some,Bool.not_true,Bool.false_eq_true,if_false,Option.getD_some]
 by_cases h1:h.Site.Func=(g.Funcs[i]).Name
 ·rw[if_neg (by simp[h1])]
  by_cases h2:h.Site.Call<0
  ·rw[if_pos (by simpa using h2),if_neg (by omega)];exact⟨_,rfl⟩
  ·rw[if_neg (by simpa using h2),if_pos ⟨h1,by omega⟩,show idx (wOf g how fs).g.Funcs (i:Int)=some g.Funcs[i] from q1h hi,Option.bind_some]
   by_cases h3:h.Site.Call.toNat<(g.Funcs[i]).Calls.length
   ·rw[if_neg (by simp;omega),Option.bind_some]
    have hcall:idx (g.Funcs[i]).Calls h.Site.Call=some (g.Funcs[i]).Calls[h.Site.Call.toNat]:=by
     simp[idx,show 0<=h.Site.Call by omega,h3]
    rw[hcall,Option.bind_some,List.getElem?_eq_getElem h3,Option.bind_some]
    have ho:(q8b (wOf g how fs).on ((g.Funcs[i]).Calls[h.Site.Call.toNat]).Feature).getD false=onF fs ((g.Funcs[i]).Calls[h.Site.Call.toNat]).Feature:=onB_eq g how fs _
    rw[ho]
    cases onF fs ((g.Funcs[i]).Calls[h.Site.Call.toNat]).Feature
    ·exact⟨_,rfl⟩
    ·exact⟨(g.Funcs[i]).Calls[h.Site.Call.toNat],rfl⟩
   ·rw[if_pos (by simp;omega),List.getElem?_eq_none (by omega),Option.bind_none];exact⟨_,rfl⟩
 ·rw[if_pos (by simpa using h1),if_neg (fun hh=>h1 hh.1)];exact⟨_,rfl⟩
theorem z1o{x:q5e}{h:q6k}{c:q8c}(hc:callF fs x h=some c):c∈x.Calls/\onF fs c.Feature=true/\h.Site.Func=x.Name:=by
 unfold callF at hc
 split at hc
 ·rename_i h1
  rw[Option.bind_eq_some_iff] at hc
  obtain⟨c',h2,h3⟩:=hc
  split at h3
  ·rename_i h4
   simp only[Option.some.injEq] at h3
   subst h3
   exact⟨List.mem_of_getElem? h2,h4,h1.1⟩
  ·simp at h3
 ·simp at hc
def servI(p:q6c->Bool):Nat->List q6c->List Int
 |_,[]=>[]
 |n,m::l=>if p m=true then (n:Int)::servI p (n+1) l else servI p (n+1) l
theorem z8b(p:q6c->Bool):∀(l:List q6c) (n:Nat) (v:Int),v∈servI p n l<->∃i:Nat,v=((n+i:Nat):Int)/\∃h:i<l.length,p l[i]=true
 |[],n,v=>by simp[servI]
 |m::l,n,v=>by
  have ih:=z8b p l (n+1) v
  have key:(∃i:Nat,v=((n+i:Nat):Int)/\∃h:i<(m::l).length,p (m::l)[i]=true)<->(v=(n:Int)/\p m=true)\/∃i:Nat,v=((n+1+i:Nat):Int)/\∃h:i<l.length,p l[i]=true:=by
   constructor
   ·rintro⟨i,h1,h2,h3⟩
    cases i with
    |zero=>exact .inl ⟨by simpa using h1,h3⟩
    |succ i=>exact .inr ⟨i,by rw[h1];congr 1;omega,by simpa using h2,h3⟩
   ·rintro(⟨h1,h2⟩|⟨i,h1,h2,h3⟩)
    ·exact⟨0,by simpa using h1,by simp,h2⟩
    ·exact⟨i+1,by rw[h1];congr 1;omega,by simpa using h2,h3⟩
  rw[key,servI]
  split
  ·rename_i hp;rw[List.mem_cons,ih];simp[hp]
  ·rename_i hp;rw[ih];simp[hp]
theorem M165_L1_eq(w:q8a)(c:q8c)(to:Int)(p:q6c->Bool)(k:List Int->Option (List Int)):∀(l:List q6c) (n:Nat) (o:List Int),o.length+l.length<=100000->
  (∀m,m∈l->(((q8b w.fitting c.Target).getD []).contains ((q8b w.types m.Type_).getD 0)=true->∃v,z7d F w c ((q8b w.types m.Type_).getD 0)=some v/\p m=(v==to))/\(((q8b w.fitting c.Target).getD []).contains ((q8b w.types m.Type_).getD 0)=false->p m=false))->
  z2a F w c to k l (n:Int) o=k (o++servI p n l)
 |[],n,o,_,_=>by simp[z2a,servI]
 |m::l,n,o,hl,h=>by
  simp only[List.length_cons] at hl
  have hm:=h m (by simp)
  have ih:=fun o' ho=>M165_L1_eq w c to p k l (n+1) o' ho (fun m hm=>h m (List.mem_cons_of_mem _ hm))
  have ih:∀o':List Int,o'.length+l.length<=100000->z2a F w c to k l ((n:Int)+1) o'=k (o'++servI p (n+1) l):=ih
  rw[z2a,servI]
  simp only[q3e]
  rw[M164_eq,Option.bind_some]
  cases hc:((q8b w.fitting c.Target).getD []).contains ((q8b w.types m.Type_).getD 0)
  ·rw[if_neg (by simp),ih _ (by omega),hm.2 hc];simp
  ·rw[if_pos rfl]
   obtain⟨v,hv,hp⟩:=hm.1 hc
   rw[hv,Option.bind_some,hp]
   cases (v==to)
   ·rw[if_neg (by simp),if_neg (by simp),ih _ (by omega)]
   ·rw[if_pos rfl,if_pos rfl,if_pos (by simp;omega),ih _ (by simp;omega)];simp
theorem M109_L4_eq(k:List Bool->Option Bool):∀(is:List Int) (l:List Bool),(∀v,v∈is->∃i:Nat,i<l.length/\v=i)->∃l',z1l F k is l=k l'/\z1a (fun i=>is.contains (i:Int)) l l'
 |[],l,_=>⟨l,rfl,.refl (by simp)⟩
 |v::is,l,h=>by
  obtain⟨j,hj,rfl⟩:=h v (by simp)
  rw[z1l,q1h hj,Option.bind_some,Int.toNat_natCast]
  obtain⟨l',e,m⟩:=M109_L4_eq k is (l.set j true) (fun v hv=>by obtain⟨i,hi,e⟩:=h v (List.mem_cons_of_mem _ hv);exact⟨i,by simpa using hi,e⟩)
  refine⟨l',e,((z1a.set hj).trans m).congr fun i _=>?_⟩
  rw[List.contains_cons]
  congr 1
  by_cases hij:i=j
  ·subst hij;simp
  ·have:((i:Int)==(j:Int))=false:=by simp;omega
   rw[this];simp[hij]
end
def markL(p:Nat->Bool)(l:List Bool):List Bool:=l.mapIdx fun i b=>b||p i
theorem markL_ok(p:Nat->Bool)(l:List Bool):z1a p l (markL p l):=⟨by simp[markL],fun i hi=>by simp[markL,List.getElem?_eq_getElem hi]⟩
theorem markL_eq{p:Nat->Bool}{l l':List Bool}(h:z1a p l l'):l'=markL p l:=h.uniq (markL_ok p l)
theorem markL_id{p:Nat->Bool}{l:List Bool}(h:∀i,i<l.length->p i=false):markL p l=l:=(markL_eq (z1a.refl h)).symm
def stepW(g:q3c)(how:Int)(fs:List Tx)(M:List q6c)(at':Tx)(l:List Bool)(h:q6k):Option (Tx×List Bool):=
 (g.Funcs.find? fun x=>x.Name==at').bind fun x=>(callF fs x h).bind fun c=>
  if q6p g c h.To=[] then none else if how=1 then some (h.To,l)
  else if (q6p g c h.To).any (fun a=>a.typ==([]:Tx))||M.any (mkP g c h.To) then some (h.To,markL (mkI g c h.To M) l) else none
def hopsW(g:q3c)(how:Int)(fs:List Tx)(M:List q6c):List q6k->Tx->List Bool->Option (Tx×List Bool)
 |[],a,l=>some (a,l)
 |h::hs,a,l=>(stepW g how fs M a l h).bind fun p=>hopsW g how fs M hs p.1 p.2
section
variable{g:q3c}{fs:List Tx}{F:Nat}
theorem q1r{c:q8c}{to:Tx}{a:q3a}:a∈q6p g c to<->a∈q5j g c/\a.to=to:=by
 unfold q6p;rw[List.mem_filter];simp
theorem z6o{c:q8c}{to:Tx}:q6p g c to≠[]<->∃a,a∈q5j g c/\a.to=to:=by
 constructor
 ·intro h
  obtain⟨a,ha⟩:=List.exists_mem_of_ne_nil _ h
  exact⟨a,q1r.1 ha⟩
 ·rintro⟨a,ha⟩ e
  have:=q1r.2 ha
  rw[e] at this;simp at this
theorem type_inj(R:q5g g){t:q0i}(ht:t∈g.Types){j:Nat}(hj:j<g.Types.length)(h:t.Name=(g.Types[j]).Name):t=g.Types[j]:=by
 have h1:=q8o (f:=q0i.Name) R.tsrt ht
 have h2:=q8o (f:=q0i.Name) R.tsrt (List.getElem_mem hj)
 rw[h,h2] at h1
 exact(Option.some.inj h1).symm
theorem name_ne(R:q5g g){t:q0i}(ht:t∈g.Types):t.Name≠[]:=by
 intro e
 have:=(R.t t ht).nam
 rw[e] at this;simp[nm] at this
theorem mkP_iff(R:q5g g){c:q8c}(k:c.Kind≠1){I:q4e}(I3:ifG g c.Target=I)(I4:∀t,fitB t I=true->(mOf t c.Method).2=true)(to:Tx)(m:q6c){j:Nat}(hj:j<g.Types.length)(hje:(g.Types[j]).Name=m.Type_):
  mkP g c to m=true<->fitB g.Types[j] I=true/\(mOf g.Types[j] c.Method).1=to:=by
 unfold mkP
 rw[List.any_eq_true]
 constructor
 ·rintro⟨a,ha,h⟩
  obtain⟨h1,h2⟩:=q1r.1 ha
  simp only[Bool.and_eq_true,beq_iff_eq] at h
  unfold q5j at h1
  rw[if_neg k] at h1
  obtain⟨t,ht,h3⟩:=List.mem_filterMap.1 h1
  unfold aimO at h3
  split at h3
  ·rename_i h4
   simp only[Option.some.injEq] at h3
   subst h3
   have e:t=g.Types[j]:=type_inj R ht hj (h.2.symm.trans hje.symm)
   subst e
   rw[I3] at h4
   exact⟨h4.2,h2⟩
  ·simp at h3
 ·rintro⟨h1,h2⟩
  refine⟨q3a.mk (g.Types[j]).Name (mOf g.Types[j] c.Method).1,q1r.2 ⟨?_,h2⟩,?_⟩
  ·unfold q5j
   rw[if_neg k]
   exact List.mem_filterMap.2 ⟨g.Types[j],List.getElem_mem _,by unfold aimO;rw[if_pos ⟨I4 _ h1,by rw[I3];exact h1⟩]⟩
  ·simp only[Bool.and_eq_true,beq_iff_eq]
   exact⟨by simp[name_ne R (List.getElem_mem hj)],hje.symm⟩
theorem dis_typ(R:q5g g){c:q8c}(k:c.Kind≠1)(to:Tx):(q6p g c to).any (fun a=>a.typ==([]:Tx))=false:=by
 rw[List.any_eq_false]
 intro a ha
 obtain⟨h1,_⟩:=q1r.1 ha
 unfold q5j at h1
 rw[if_neg k] at h1
 obtain⟨t,ht,h3⟩:=List.mem_filterMap.1 h1
 unfold aimO at h3
 split at h3
 ·simp only[Option.some.injEq] at h3
  subst h3
  simpa using name_ne R ht
 ·simp at h3
theorem dir_aims{c:q8c}(k:c.Kind=1)(to:Tx):q6p g c to=if c.Target=to then [q3a.mk [] c.Target] else []:=by
 unfold q6p q5j
 rw[if_pos k,List.filter_cons,List.filter_nil]
 by_cases h:c.Target=to<;>simp[h]
theorem dir_mk{c:q8c}(k:c.Kind=1)(to:Tx)(m:q6c):mkP g c to m=false:=by
 unfold mkP
 rw[dir_aims k]
 split<;>simp
structure MOk(g:q3c)(M:List q6c)(l:List Bool):Prop where
 ty:∀m,m∈M->tsOf g m.Type_=true
 len:l.length=M.length
 sm:M.length<=500
theorem M92_1_tgt(hF:1000<=F)(R:q5g g)(how:Int){x:q5e}(hx:x∈g.Funcs){c:q8c}(hc:c∈x.Calls){to:Nat}(hto:to<g.Funcs.length):
  ∃l,M92_1 F (wOf g how fs) c=some l/\(l.contains (to:Int)=true<->q6p g c (g.Funcs[to]).Name≠[]):=by
 obtain⟨l,e,T⟩:=M92_1_eq F hF R how fs hx hc
 refine⟨l,e,?_⟩
 rw[List.contains_iff_mem,T.mem to hto,z6o]
theorem no_aim(R:q5g g){x:q5e}(hx:x∈g.Funcs){c:q8c}(hc:c∈x.Calls){to:Tx}(hto:q8s g to=false):q6p g c to=[]:=by
 by_cases h:q6p g c to=[]
 ·exact h
 ·obtain⟨a,ha,he⟩:=z6o.1 h
  have:=q5t R hx hc ha
  rw[he,hto] at this;simp at this
theorem M109_L3_eq(hF:1000<=F)(R:q5g g)(a3:q8e)(k:Tx->List Bool->Option Bool):∀(hs:List q6k) (s:Tx) (l:List Bool),q8s g s=true->MOk g a3.Made l->
  z3f F (wOf g 2 fs) a3 k hs s l=match hopsW g 2 fs a3.Made hs s l with|none=>some false|some p=>k p.1 p.2
 |[],s,l,_,_=>rfl
 |h::hs,s,l,hs1,hm=>by
  rw[z3f,hopsW]
  simp only[q3e]
  obtain⟨i,hi,he⟩:=q9q hs1
  obtain⟨c0,e86⟩:=M163_eq (F:=F) (how:=2) (fs:=fs) R h hi
  rw[he] at e86
  have hfind:(g.Funcs.find? fun x=>x.Name==s)=some g.Funcs[i]:=by rw[<-he];exact find_at R hi
  unfold stepW
  rw[e86,hfind,Option.bind_some,Option.bind_some]
  cases hcf:callF fs g.Funcs[i] h with
  |none=>simp
  |some c=>
   obtain⟨hc,ho,_⟩:=z1o hcf
   simp only[Bool.not_true,Bool.false_eq_true,if_false,Option.bind_some]
   by_cases hto:q8s g h.To=true
   ·obtain⟨t,ht,hte⟩:=q9q hto
    have hgt:q8b (wOf g 2 fs).funcs h.To=some (t:Int):=by rw[<-hte];exact fget_at R 2 fs ht
    rw[hgt]
    simp only[Option.isSome_some,Bool.not_true,Bool.false_eq_true,if_false,Option.getD_some]
    obtain⟨l56,e56,i56⟩:=M92_1_tgt (fs:=fs) hF R 2 (List.getElem_mem hi) hc ht
    rw[hte] at i56
    rw[e56,Option.bind_some,M164_eq,Option.bind_some]
    by_cases ha:q6p g c h.To=[]
    ·have:l56.contains (t:Int)=false:=by
      cases hcc:l56.contains (t:Int) with
      |false=>rfl
      |true=>exact absurd ha (i56.1 hcc)
     rw[this,if_pos ha];simp
    ·have:l56.contains (t:Int)=true:=i56.2 ha
     have h21:¬((2:Int)=1):=by decide
     rw[this,if_neg ha,if_neg h21]
     have hmd:(wOf g 2 fs).made=true:=by simp[wOf]
     rw[if_neg (show ¬((!true)=true) from by decide),if_pos hmd]
     by_cases kk:c.Kind=1
     ·have hk:(c.Kind==2)=false:=by rw[kk];rfl
      rw[hk,if_neg (by simp)]
      have h1:(q6p g c h.To).any (fun a=>a.typ==([]:Tx))=true:=by
       rw[dir_aims kk] at ha ⊢
       split at ha
       ·rename_i e;rw[if_pos e];simp
       ·exact absurd rfl ha
      rw[h1,Bool.true_or,if_pos rfl,Option.bind_some]
      have h2:markL (mkI g c h.To a3.Made) l=l:=markL_id fun i hi=>by
       unfold mkI
       cases a3.Made[i]? with
       |none=>rfl
       |some m=>exact dir_mk kk _ _
      simp only[h2]
      exact M109_L3_eq hF R a3 k hs h.To l hto hm
     ·obtain⟨I,I1,I2,I3,I4⟩:=dis_aim R (List.getElem_mem hi) hc kk
      have hk:(c.Kind==2)=true:=by
       rcases((R.f _ (List.getElem_mem hi)).calls c hc).kind with ⟨q,_⟩|⟨q,_⟩
       ·exact absurd q kk
       ·rw[q];rfl
      rw[hk,if_pos rfl,dis_typ R kk,Bool.false_or]
      have e88:M165 F (wOf g 2 fs) a3.Made c (t:Int)=some (servI (mkP g c h.To) 0 a3.Made):=by
       unfold M165
       rw[q3e]
       have:=M165_L1_eq (F:=F) (wOf g 2 fs) c (t:Int) (mkP g c h.To) (fun l6=>some l6) a3.Made 0 [] (by have:=hm.sm;simp;omega) (fun m hmm=>by
        obtain⟨j,hj,hje⟩:=ts_at (hm.ty m hmm)
        have hti:(q8b (wOf g 2 fs).types m.Type_).getD 0=(j:Int):=by rw[<-hje,tget_at R 2 fs hj];rfl
        rw[hti]
        have hfl:∀v,v∈((q8b (wOf g 2 fs).fitting c.Target).getD [])<->v∈fitL (wOf g 2 fs) c.Target:=fun v=>Iff.rfl
        refine⟨fun hcn=>?_,fun hcn=>?_⟩
        ·refine⟨_,M151_at hF R 2 fs c hj,?_⟩
         obtain⟨j',hj',e1,e2⟩:=(fit_iff R 2 fs I2 (j:Int)).1 ((hfl _).1 (by simpa using hcn))
         have:j'=j:=by omega
         subst this
         have ha:q3a.mk (g.Types[j']).Name (mOf g.Types[j'] c.Method).1∈q5j g c:=by
          unfold q5j
          rw[if_neg kk]
          exact List.mem_filterMap.2 ⟨g.Types[j'],List.getElem_mem _,by unfold aimO;rw[if_pos ⟨I4 _ e2,by rw[I3];exact e2⟩]⟩
         obtain⟨q,hq,hqe⟩:=q9q (q5t R (List.getElem_mem hi) hc ha)
         have hqe:(g.Funcs[q]).Name=(mOf g.Types[j'] c.Method).1:=hqe
         rw[<-hqe,q4s R 2 fs hq,Bool.eq_iff_iff,mkP_iff R kk I3 I4 h.To m hj hje,<-hqe,<-hte]
         constructor
         ·rintro⟨_,h2⟩
          have h1:=q4s R 2 fs hq
          rw[h2,q4s R 2 fs ht] at h1
          simp;omega
         ·intro h2
          have:q=t:=by simp at h2;omega
          subst this
          exact⟨e2,rfl⟩
        ·cases hmk:mkP g c h.To m with
         |false=>rfl
         |true=>
          have:=((mkP_iff R kk I3 I4 h.To m hj hje).1 hmk).1
          have:=(fit_iff R 2 fs I2 (j:Int)).2 ⟨j,hj,rfl,this⟩
          have:((q8b (wOf g 2 fs).fitting c.Target).getD []).contains (j:Int)=true:=by rw[List.contains_iff_mem];exact(hfl _).2 this
          rw[hcn] at this;simp at this)
       simpa using this
      rw[e88,Option.bind_some]
      by_cases hz:servI (mkP g c h.To) 0 a3.Made=[]
      ·rw[hz,if_pos (show(((([]:List Int).length:Nat):Int)==0)=true from rfl)]
       have:a3.Made.any (mkP g c h.To)=false:=by
        rw[List.any_eq_false]
        intro m hmm hmk
        obtain⟨i',hi',rfl⟩:=List.getElem_of_mem hmm
        have:=(z8b (mkP g c h.To) a3.Made 0 ((0+i':Nat):Int)).2 ⟨i',rfl,hi',hmk⟩
        rw[hz] at this;simp at this
       rw[this];rfl
      ·rw[if_neg (by simpa using hz)]
       have:a3.Made.any (mkP g c h.To)=true:=by
        obtain⟨v,hv⟩:=List.exists_mem_of_ne_nil _ hz
        obtain⟨i',_,hi',hmk⟩:=(z8b _ _ _ _).1 hv
        exact List.any_eq_true.2 ⟨_,List.getElem_mem hi',hmk⟩
       rw[this,if_pos rfl,Option.bind_some]
       obtain⟨l',e4,m4⟩:=M109_L4_eq (F:=F) (fun l117=>z3f F (wOf g 2 fs) a3 k hs h.To l117) (servI (mkP g c h.To) 0 a3.Made) l (fun v hv=>by
        obtain⟨i',e,hi',_⟩:=(z8b _ _ _ _).1 hv
        exact⟨i',by rw[hm.len];exact hi',by simpa using e⟩)
       refine e4.trans ?_
       have hl':l'=markL (mkI g c h.To a3.Made) l:=markL_eq (m4.congr fun i' hi'=>by
        unfold mkI
        have hlt:i'<a3.Made.length:=by rw[<-hm.len];exact hi'
        rw[List.getElem?_eq_getElem hlt]
        show _=mkP g c h.To a3.Made[i']
        rw[Bool.eq_iff_iff,List.contains_iff_mem,z8b]
        constructor
        ·rintro⟨q,e,hq,hmk⟩
         have:q=i':=by omega
         subst this;exact hmk
        ·intro hmk;exact⟨i',by simp,hlt,hmk⟩)
       rw[hl']
       exact M109_L3_eq hF R a3 k hs h.To _ hto ⟨hm.ty,by rw[(markL_ok _ _).1];exact hm.len,hm.sm⟩
   ·have hto':q8s g h.To=false:=by simpa using hto
    rw[z8c 2 fs hto',if_pos (no_aim R (List.getElem_mem hi) hc hto')];simp
theorem M109_L1_eq(hF:1000<=F)(R:q5g g)(a3:q8e)(k:Tx->List Bool->Option Bool):∀(hs:List q6k) (s:Tx) (l:List Bool),q8s g s=true->
  z2l F (wOf g 1 fs) a3 k hs s l=match hopsW g 1 fs a3.Made hs s l with|none=>some false|some p=>k p.1 p.2
 |[],s,l,_=>rfl
 |h::hs,s,l,hs1=>by
  rw[z2l,hopsW]
  simp only[q3e]
  obtain⟨i,hi,he⟩:=q9q hs1
  obtain⟨c0,e86⟩:=M163_eq (F:=F) (how:=1) (fs:=fs) R h hi
  rw[he] at e86
  have hfind:(g.Funcs.find? fun x=>x.Name==s)=some g.Funcs[i]:=by rw[<-he];exact find_at R hi
  unfold stepW
  rw[e86,hfind,Option.bind_some,Option.bind_some]
  cases hcf:callF fs g.Funcs[i] h with
  |none=>simp
  |some c=>
   obtain⟨hc,ho,_⟩:=z1o hcf
   simp only[Bool.not_true,Bool.false_eq_true,if_false,Option.bind_some]
   by_cases hto:q8s g h.To=true
   ·obtain⟨t,ht,hte⟩:=q9q hto
    have hgt:q8b (wOf g 1 fs).funcs h.To=some (t:Int):=by rw[<-hte];exact fget_at R 1 fs ht
    rw[hgt]
    simp only[Option.isSome_some,Bool.not_true,Bool.false_eq_true,if_false,Option.getD_some]
    obtain⟨l56,e56,i56⟩:=M92_1_tgt (fs:=fs) hF R 1 (List.getElem_mem hi) hc ht
    rw[hte] at i56
    rw[e56,Option.bind_some,M164_eq,Option.bind_some]
    by_cases ha:q6p g c h.To=[]
    ·have:l56.contains (t:Int)=false:=by
      cases hcc:l56.contains (t:Int) with
      |false=>rfl
      |true=>exact absurd ha (i56.1 hcc)
     rw[this,if_pos ha];simp
    ·have:l56.contains (t:Int)=true:=i56.2 ha
     rw[this,if_neg ha]
     have hmd:(wOf g 1 fs).made=false:=by simp[wOf]
     rw[if_neg (show ¬((!true)=true) from by decide),if_neg (by rw[hmd];simp)]
     simp only[if_true,Option.bind_some]
     exact M109_L1_eq hF R a3 k hs h.To l hto
   ·have hto':q8s g h.To=false:=by simpa using hto
    rw[z8c 1 fs hto',if_pos (no_aim R (List.getElem_mem hi) hc hto')];simp
end
section
variable{g:q3c}{how:Int}{fs:List Tx}{F:Nat}
theorem rb_ok(R:q5g g){rl:List Tx}:∀{l:List q6c} {p:Option Tx},rbL rl g p l=true->
  (∀t,p=some t->∀m,m∈l->Op.bytesLess t m.Type_=true)/\(l.map (·.Type_)).Pairwise (fun a b=>Op.bytesLess a b=true)/\∀m,m∈l->m.Func∈rl/\∃x,x∈g.Funcs/\x.Name=m.Func/\m.Type_∈x.Makes
 |[],p,_=>⟨by simp,by simp,by simp⟩
 |m::l,p,h=>by
  rw[rbL,Bool.and_eq_true,Bool.and_eq_true,Bool.and_eq_true] at h
  obtain⟨h1,h2,h3,h4⟩:=h
  obtain⟨i1,i2,i3⟩:=rb_ok R h4
  have hm:∃x,x∈g.Funcs/\x.Name=m.Func/\m.Type_∈x.Makes:=by
   cases hf:(g.Funcs.find? fun x=>x.Name==m.Func) with
   |none=>rw[hf] at h3;simp at h3
   |some x=>
    rw[hf] at h3
    exact⟨x,List.mem_of_find?_eq_some hf,by have:=List.find?_some hf;simpa using this,by simpa using h3⟩
  refine⟨fun t ht m' hm'=>?_,?_,fun m' hm'=>?_⟩
  ·subst ht
   have h1:Op.bytesLess t m.Type_=true:=h1
   rcases List.mem_cons.1 hm' with e|e
   ·rw[e];exact h1
   ·exact q8m h1 (i1 _ rfl m' e)
  ·rw[List.map_cons,List.pairwise_cons]
   refine⟨fun t ht=>?_,i2⟩
   obtain⟨m',hm',rfl⟩:=List.mem_map.1 ht
   exact i1 _ rfl m' hm'
  ·rcases List.mem_cons.1 hm' with e|e
   ·rw[e];exact⟨by simpa using h2,hm⟩
   ·exact i3 m' e
theorem rb_mok(R:q5g g){rl:List Tx}{M:List q6c}(h:rbL rl g none M=true):MOk g M (List.replicate (((M.length:Nat):Int)).toNat false):=by
 obtain⟨_,h2,h3⟩:=rb_ok R h
 have ty:∀m,m∈M->tsOf g m.Type_=true:=fun m hm=>by
  obtain⟨_,x,hx,_,ht⟩:=h3 m hm
  exact(R.f x hx).makes _ ht
 refine⟨ty,by simp,?_⟩
 have:=List.Nodup.length_le_of_subset (l₂:=g.Types.map (·.Name)) (q3w h2) (fun t ht=>by
  obtain⟨m,hm,rfl⟩:=List.mem_map.1 ht
  have:=ty m hm
  simpa[tsOf] using this)
 have:=R.tl
 simp at *;omega
theorem M205_eq(k:Option Int):∀(l:List Bool) (n:Nat),∃r,z1k F false (some (-1)) l (n:Int)=some r/\(decide (r>=0)=l.contains false)
 |[],n=>⟨-1,rfl,rfl⟩
 |b::l,n=>by
  rw[z1k]
  obtain⟨r,e1,e2⟩:=M205_eq k l (n+1)
  cases b
  ·exact⟨n,by simp,by simp⟩
  ·rw[if_neg (by simp)]
   exact⟨r,e1,by rw[e2];simp⟩
theorem M166_eq(l:List Bool):M166 F l false=some (l.contains false):=by
 unfold M166 M205
 rw[q3e]
 obtain⟨r,e1,e2⟩:=M205_eq (F:=F) none l 0
 rw[show((0:Nat):Int)=0 from rfl] at e1
 rw[e1,Option.bind_some,e2]
theorem q5z:∀l:List Bool,(!(l.contains false))=l.all id
 |[]=>rfl
 |b::l=>by
  have:=q5z l
  rw[List.contains_cons,List.all_cons,<-this]
  cases b<;>simp
def holdB(g:q3c)(how:Int)(fs rl:List Tx)(target:Tx)(w:q8e):Bool:=
 g.Entries.contains w.Entry&&(rbL rl g none w.Made&&((how==2||w.Made.isEmpty)&&(match hopsW g how fs w.Made w.Hops w.Entry (List.replicate (((w.Made.length:Nat):Int)).toNat false) with|none=>false|some p=>p.1==target&&p.2.all id)))
theorem M109_eq(hF:10000<=F)(hg:q2o g)(hfs:∀x,x∈fs->x.length<=maxLen)(h0:opnE g how fs=0){rl m u:List Tx}(A:Ans g how fs rl m u)(t:Tx)(w:q8e)(hw:w.Made.length<=maxLen):M109 F (wOf g how fs) t w=some (holdB g how fs rl t w):=by
 obtain⟨R,hh⟩:=z5m h0
 obtain⟨sp,s1,s2,s3,s4,s5⟩:=spread_eq (wok (F:=F) (by omega) R how fs) hF
 unfold M109 holdB
 rw[s1,Option.bind_some,Option.bind_some,show(wOf g how fs).g.Entries=g.Entries from rfl,M23_eq,Option.bind_some]
 cases he:g.Entries.contains w.Entry
 ·simp
 ·have hent:q8s g w.Entry=true:=R.e _ (by simpa using he)
  have e85:M162 F (wOf g how fs) sp w.Made=some (rbL rl g none w.Made):=by
   unfold M162
   rw[q3e]
   have:=M162_L1_eq (F:=F) (how:=how) (fs:=fs) R s2 (rl:=rl) (sp:=sp) (fun i hi=>by rw[s4,A.r,<-reach_iff (F:=F) (by omega) R hh fs hi];exact⟨fun q=>q.2,fun q=>⟨hi,q⟩⟩) (fun x hx=>by simpa using ((A.r x).1 hx).names R) w.Made hw (some true) w.Made 0 rfl
   rw[show((0:Nat):Int)=0 from rfl] at this
   rw[this]
   have:prvM w.Made 0=none:=rfl
   rw[this]
   cases rbL rl g none w.Made<;>rfl
  simp only[Bool.not_true,Bool.false_eq_true,if_false,Bool.true_and]
  rw[e85,Option.bind_some]
  cases hr:rbL rl g none w.Made
  ·simp
  ·have hmk:=rb_mok R hr
   have hlen:=hmk.sm
   simp only[Bool.not_true,Bool.false_eq_true,if_false,Bool.true_and]
   have hsz:0<=((w.Made.length:Nat):Int)/\((1:Nat):Int)*((w.Made.length:Nat):Int)<=140737488355328/\((w.Made.length:Nat):Int)<=140737488355328:=by omega
   rcases hh with h1|h2
   ·subst h1
    have hmd:(wOf g 1 fs).made=false:=by simp[wOf]
    rw[hmd]
    simp only[Bool.not_false,if_true]
    cases hM:w.Made with
    |cons a b=>simp
    |nil=>
     simp only[List.length_nil]
     rw[if_neg (by simp),if_pos (by decide)]
     simp only[q3e]
     rw[M109_L1_eq (by omega) R w _ w.Hops w.Entry _ hent,hM]
     show _=some ((((1:Int)==2)||true)&&_)
     simp only[Bool.or_true,Bool.true_and]
     cases hopsW g 1 fs [] w.Hops w.Entry (List.replicate (((0:Nat):Int)).toNat false) with
     |none=>rfl
     |some p=>
      simp only
      cases (p.1==t)
      ·simp
      ·rw[if_pos rfl,M166_eq,Option.bind_some,q5z];simp
   ·subst h2
    have hmd:(wOf g 2 fs).made=true:=by simp[wOf]
    rw[hmd]
    simp only[Bool.not_true,Bool.false_eq_true,if_false]
    rw[if_pos hsz]
    simp only[q3e]
    rw[M109_L3_eq (by omega) R w _ w.Hops w.Entry _ hent hmk]
    show _=some ((((2:Int)==2)||_)&&_)
    simp only[beq_self_eq_true,Bool.true_or,Bool.true_and]
    cases hopsW g 2 fs w.Made w.Hops w.Entry (List.replicate (((w.Made.length:Nat):Int)).toNat false) with
    |none=>rfl
    |some p=>
     simp only
     cases (p.1==t)
     ·simp
     ·rw[if_pos rfl,M166_eq,Option.bind_some,q5z];simp
theorem M101_one(hg:q2o g)(hfs:∀x,x∈fs->x.length<=maxLen)(hl:fs.length<=maxLen)(t:Tx):M101 F g how fs [t]=some (if opnE g how fs≠0 then opnE g how fs else if q8s g t=true then 0 else 4):=by
 have a1:=M18_eq F g hg
 have a2:=M81_eq F fs hfs hl
 have a3:(match g.Funcs.find? (fun x:q5e=>x.Name==t) with|some x=>(x,true)|none=>(q5e.mk [] [] [] [],false)).2=q8s g t:=by
  cases hf:q8s g t
  ·rw[find_none hf]
  ·obtain⟨x,hx,rfl⟩:=in_names.1 hf
   cases h:(g.Funcs.find? fun y=>y.Name==x.Name) with
   |none=>rw[List.find?_eq_none] at h;exact absurd (by simp) (h x hx)
   |some y=>rfl
 unfold M101
 rw[a1,Option.bind_some,a2,Option.bind_some]
 unfold opnE
 by_cases h1:chk false g=0
 ·by_cases h2:feE fs=0
  ·by_cases h3:how=1
   ·simp only[h1,h2,h3,q3e,M101_L2,M125_eq,Option.bind_some,a3]
    cases hft:q8s g t<;>rw[hft] at a3<;>simp<;>exact a3
   ·by_cases h4:how=2
    ·simp only[h1,h2,h4,q3e,M101_L1,M125_eq,Option.bind_some,a3]
     cases hft:q8s g t<;>rw[hft] at a3<;>simp<;>exact a3
    ·simp[h1,h2,h3,h4]
  ·simp[h1,h2]
 ·simp[h1]
theorem M31_eq(hF:10000<=F)(hg:q2o g)(hfs:∀x,x∈fs->x.length<=maxLen){rl m u:List Tx}(A:opnE g how fs=0->Ans g how fs rl m u)(t:Tx)(w:q8e)(hw:w.Made.length<=maxLen):
  M31 F g how fs t w=some (if opnE g how fs≠0 then (false,opnE g how fs) else if q8s g t=true then (holdB g how fs rl t w,0) else (false,4)):=by
 unfold M31 M90
 rw[M78_eq F g how fs hg hfs (by omega),Option.bind_some]
 by_cases h0:opnE g how fs=0
 ·rw[h0]
  simp only[ne_eq,not_true_eq_false,if_false,bne_self_eq_false,Bool.false_eq_true,Option.bind_some]
  cases ht:q8s g t
  ·rw[z8c how fs ht];simp
  ·obtain⟨i,hi,he⟩:=q9q ht
   have:q8b (wOf g how fs).funcs t=some (i:Int):=by rw[<-he];exact fget_at (z5m h0).1 how fs hi
   rw[this]
   simp only[Option.isSome_some,Bool.not_true,Bool.false_eq_true,if_false,Option.bind_some,bne_self_eq_false,if_true]
   rw[M109_eq hF hg hfs h0 (A h0) t w hw,Option.bind_some]
 ·have h0':(opnE g how fs != 0)=true:=by simpa using h0
  simp only[ne_eq,h0,not_false_eq_true,if_true,h0',Option.bind_some]
end
def cnt(g:q3c)(how:Int)(fs:List Tx)(a:q3a):Prop:=how≠1->a.typ≠[]->RN g how (onF fs) true a.typ
def gd(g:q3c)(how:Int)(fs:List Tx)(c:q8c)(y:Tx):Prop:=∃a,a∈q5j g c/\cnt g how fs a/\a.to=y
structure TgC(g:q3c)(how:Int)(fs:List Tx)(c:q8c)(l:List Int):Prop where
 srt:l.Pairwise (·<·)
 len:l.length<=500
 nat:∀v,v∈l->∃i:Nat,i<g.Funcs.length/\v=i
 mem:∀i:Nat,∀h:i<g.Funcs.length,(i:Int)∈l<->gd g how fs c (g.Funcs[i]).Name
theorem nilq_ne{R:Type}{n:Nat}{k:Bool->Option R}(h:n≠0):nilq n k=k false:=by unfold nilq;rw[if_pos h]
theorem M92_L1_eq(F:Nat)(w:q8a)(c:q8c)(md:List Bool)(k:List Int->Option (List Int))(f:Int->Int):∀(l:List Int) (o:List Int),(∀t,t∈l->z7d F w c t=some (f t)/\0<=t/\t.toNat<md.length)->o.length+l.length<=100000->
  M92_L1 F w c md k l o=k (o++(l.filter fun t=>md.getD t.toNat false).map f)
 |[],o,_,_=>by simp[M92_L1]
 |t::l,o,h,hl=>by
  simp only[List.length_cons] at hl
  obtain⟨h1,h2,h3⟩:=h t (by simp)
  have ih:=fun o' ho=>M92_L1_eq F w c md k f l o' (fun t ht=>h t (List.mem_cons_of_mem _ ht)) ho
  have hi:idx md t=some (md.getD t.toNat false):=by
   have:=q1h h3
   rw[Int.toNat_of_nonneg h2] at this
   rw[this,List.getD_eq_getElem?_getD,List.getElem?_eq_getElem h3,Option.getD_some]
  rw[M92_L1]
  simp only[q3e]
  rw[nilq_ne (by omega),if_neg (by simp),hi,Option.bind_some,List.filter_cons]
  cases hb:md.getD t.toNat false
  ·rw[if_neg (by simp),if_neg (by simp),ih _ (by omega)]
  ·rw[if_pos rfl,if_pos rfl,h1,Option.bind_some,if_pos (by simp;omega),ih _ (by simp;omega)]
   simp
section
variable{g:q3c}{how:Int}{fs:List Tx}
theorem tgt_all(F:Nat)(hF:1000<=F)(R:q5g g)(h1:how=1){x:q5e}(hx:x∈g.Funcs){c:q8c}(hc:c∈x.Calls):∃l,M92_1 F (wOf g how fs) c=some l/\TgC g how fs c l:=by
 obtain⟨l,e,T⟩:=M92_1_eq F hF R how fs hx hc
 refine⟨l,e,T.srt,T.len,T.nat,fun i hi=>(T.mem i hi).trans ?_⟩
 constructor
 ·rintro⟨a,ha,he⟩;exact⟨a,ha,fun q=>absurd h1 q,he⟩
 ·rintro⟨a,ha,_,he⟩;exact⟨a,ha,he⟩
theorem tgt_made(F:Nat)(hF:1000<=F)(R:q5g g)(h2:how≠1){md:List Bool}(hml:md.length=g.Types.length)(hmd:∀i:Nat,∀h:i<g.Types.length,tru md i<->RN g how (onF fs) true (g.Types[i]).Name)
  {x:q5e} (hx:x∈g.Funcs) {c:q8c} (hc:c∈x.Calls):∃l,M92 F (wOf g how fs) c md=some l/\TgC g how fs c l:=by
 unfold M92
 by_cases k:c.Kind=1
 ·rw[if_pos (by simp[k])]
  have ha:q3a.mk [] c.Target∈q5j g c:=by unfold q5j;rw[if_pos k];simp
  obtain⟨i,hi,he⟩:=q9q (q5t R hx hc ha)
  have he:(g.Funcs[i]).Name=c.Target:=he
  have hf:(q8b (wOf g how fs).funcs c.Target).getD 0=(i:Int):=by rw[<-he];exact q4s R how fs hi
  refine⟨_,rfl,by simp,by simp,fun v hv=>?_,fun j hj=>?_⟩
  ·simp only[List.mem_singleton] at hv;rw[hf] at hv;exact⟨i,hi,hv⟩
  ·simp only[List.mem_singleton]
   rw[hf]
   unfold gd q5j
   rw[if_pos k]
   simp only[List.mem_singleton]
   constructor
   ·intro h
    have:j=i:=by omega
    subst this
    exact⟨_,rfl,fun _ q=>absurd rfl q,he.symm⟩
   ·rintro⟨a,rfl,_,h⟩
    have h:c.Target=(g.Funcs[j]).Name:=h
    have h1:=q4s R how fs hj
    rw[<-h,<-he,q4s R how fs hi] at h1
    omega
 ·rw[if_neg (by simpa using k),q3e]
  obtain⟨I,I1,I2,I3,I4⟩:=dis_aim R hx hc k
  have hfit:∀t,t∈fitL (wOf g how fs) c.Target<->∃j:Nat,∃h:j<g.Types.length,t=j/\fitB g.Types[j] I=true:=fit_iff R how fs I2
  have hlen:(fitL (wOf g how fs) c.Target).length<=500:=by
   have e:fitL (wOf g how fs) c.Target=q5l I 0 g.Types:=by
    unfold fitL wOf
    simp only
    rw[z8g g.Types c.Target g.Ifaces [] R.isrt]
    simp only[q8b,Option.getD_none,List.nil_append]
    rw[I2];rfl
   rw[e]
   have:=fitIdx_len I g.Types 0
   have:=R.tl
   omega
  have hgd:∀j:Nat,j<g.Types.length->(md.getD j false=true<->tru md j):=by
   intro j hj
   unfold tru
   rw[List.getD_eq_getElem?_getD,List.getElem?_eq_getElem (by rw[hml];exact hj)]
   simp
  let f:Int->Int:=fun t=>fI (wOf g how fs) (mOf (g.Types.getD t.toNat (q0i.mk [] [])) c.Method).1
  let L:=(fitL (wOf g how fs) c.Target).filter fun t=>md.getD t.toNat false
  have hL:∀t,t∈L<->∃j:Nat,∃h:j<g.Types.length,t=j/\fitB g.Types[j] I=true/\RN g how (onF fs) true (g.Types[j]).Name:=by
   intro t
   simp only[L]
   rw[List.mem_filter,hfit]
   constructor
   ·rintro⟨⟨j,hj,rfl,h⟩,h'⟩
    exact⟨j,hj,rfl,h,(hmd j hj).1 ((hgd j hj).1 (by simpa using h'))⟩
   ·rintro⟨j,hj,rfl,h,h'⟩
    exact⟨⟨j,hj,rfl,h⟩,by simpa using (hgd j hj).2 ((hmd j hj).2 h')⟩
  have hLl:L.length<=500:=Nat.le_trans (List.length_filter_le _ _) hlen
  have hm:∀t,t∈fitL (wOf g how fs) c.Target->z7d F (wOf g how fs) c t=some (f t)/\0<=t/\t.toNat<md.length:=by
   intro t ht
   obtain⟨j,hj,rfl,_⟩:=(hfit t).1 ht
   refine⟨?_,by omega,by simp[hml];exact hj⟩
   rw[M151_at hF R how fs c hj]
   simp only[f,Int.toNat_natCast,List.getD_eq_getElem?_getD,List.getElem?_eq_getElem hj,Option.getD_some]
  have e:=M92_L1_eq F (wOf g how fs) c md (fun l5=>(M152 F l5).bind fun y17=>if y17.length=l5.length then (M153 F y17).bind fun y20=>some y20 else none) f (fitL (wOf g how fs) c.Target) [] hm (by simp;omega)
  refine⟨cpt (isort (L.map f)),?_,cpt_srtI (isort_srt _),?_,?_,?_⟩
  ·refine e.trans ?_
   simp only[List.nil_append]
   unfold M152
   rw[if_pos (by simp only[List.length_map];exact Nat.lt_of_le_of_lt hLl (by omega)),Option.bind_some,if_pos (q0n _).length_eq]
   unfold M153
   rw[if_pos (by rw[(q0n _).length_eq];simp only[List.length_map];exact Nat.le_trans hLl (by omega)),Option.bind_some]
  ·have:=cpt_lenI (isort (L.map f))
   rw[(q0n _).length_eq,List.length_map] at this
   omega
  ·intro v hv
   rw[cpt_memI,(q0n _).mem_iff] at hv
   obtain⟨t,ht,rfl⟩:=List.mem_map.1 hv
   obtain⟨j,hj,rfl,hft,_⟩:=(hL t).1 ht
   have ha:q3a.mk (g.Types[j]).Name (mOf g.Types[j] c.Method).1∈q5j g c:=by
    unfold q5j
    rw[if_neg k]
    exact List.mem_filterMap.2 ⟨g.Types[j],List.getElem_mem _,by unfold aimO;rw[if_pos ⟨I4 _ hft,by rw[I3];exact hft⟩]⟩
   obtain⟨q,hq,he⟩:=q9q (q5t R hx hc ha)
   have he:(g.Funcs[q]).Name=(mOf g.Types[j] c.Method).1:=he
   refine⟨q,hq,?_⟩
   simp only[f,Int.toNat_natCast,List.getD_eq_getElem?_getD,List.getElem?_eq_getElem hj,Option.getD_some]
   rw[<-he];exact q4s R how fs hq
  ·intro i hi
   rw[cpt_memI,(q0n _).mem_iff,List.mem_map]
   constructor
   ·rintro⟨t,ht,he⟩
    obtain⟨j,hj,rfl,hft,hr⟩:=(hL t).1 ht
    have ha:q3a.mk (g.Types[j]).Name (mOf g.Types[j] c.Method).1∈q5j g c:=by
     unfold q5j
     rw[if_neg k]
     exact List.mem_filterMap.2 ⟨g.Types[j],List.getElem_mem _,by unfold aimO;rw[if_pos ⟨I4 _ hft,by rw[I3];exact hft⟩]⟩
    obtain⟨q,hq,hqe⟩:=q9q (q5t R hx hc ha)
    have hqe:(g.Funcs[q]).Name=(mOf g.Types[j] c.Method).1:=hqe
    simp only[f,Int.toNat_natCast,List.getD_eq_getElem?_getD,List.getElem?_eq_getElem hj,Option.getD_some] at he
    rw[<-hqe,q4s R how fs hq] at he
    have:q=i:=by omega
    subst this
    exact⟨_,ha,fun _ _=>hr,hqe.symm⟩
   ·rintro⟨a,ha,hcn,he⟩
    unfold q5j at ha
    rw[if_neg k] at ha
    obtain⟨t,ht,h⟩:=List.mem_filterMap.1 ha
    unfold aimO at h
    split at h
    ·rename_i h1
     simp only[Option.some.injEq] at h
     subst h
     have hr:=hcn h2 (name_ne R ht)
     obtain⟨j,hj,rfl⟩:=List.getElem_of_mem ht
     refine⟨j,(hL _).2 ⟨j,hj,rfl,by rw[<-I3];exact h1.2,hr⟩,?_⟩
     simp only[f,Int.toNat_natCast,List.getD_eq_getElem?_getD,List.getElem?_eq_getElem hj,Option.getD_some]
     have he:(mOf g.Types[j] c.Method).1=(g.Funcs[i]).Name:=he
     rw[he];exact q4s R how fs hi
    ·simp at h
end
structure SpOk(g:q3c)(how:Int)(fs:List Tx)(sp:q2c):Prop where
 fl:sp.funcs.length=g.Funcs.length
 ml:sp.made.length=g.Types.length
 f:∀i:Nat,∀h:i<g.Funcs.length,tru sp.funcs i<->RN g how (onF fs) false (g.Funcs[i]).Name
 m:∀i:Nat,∀h:i<g.Types.length,tru sp.made i<->RN g how (onF fs) true (g.Types[i]).Name
section
variable{g:q3c}{how:Int}{fs:List Tx}{sp:q2c}
theorem spread_ok(F:Nat)(R:q5g g)(hh:how=1\/how=2)(hF:10000<=F):∃sp,M89 F (wOf g how fs) (-1)=some (some sp)/\SpOk g how fs sp:=by
 obtain⟨sp,s1,s2,s3,s4,s5⟩:=spread_eq (wok (F:=F) (by omega) R how fs) hF
 refine⟨sp,s1,s2,s3,fun i h=>?_,fun i h=>?_⟩
 ·rw[s4,<-reach_iff (F:=F) (by omega) R hh fs h]
  exact⟨fun q=>q.2,fun q=>⟨h,q⟩⟩
 ·rw[s5,<-made_iff (F:=F) (by omega) R hh fs h]
  exact⟨fun q=>q.2,fun q=>⟨h,q⟩⟩
theorem made_eq(hh:how=1\/how=2):(wOf g how fs).made=(how==2):=by
 unfold wOf;rcases hh with h|h<;>subst h<;>rfl
theorem tgt_if(F:Nat)(hF:1000<=F)(R:q5g g)(hh:how=1\/how=2)(S:SpOk g how fs sp){x:q5e}(hx:x∈g.Funcs){c:q8c}(hc:c∈x.Calls):
  ∃l,TgC g how fs c l/\∀(T:Type) (k k':List Int->Option T),(∀l,k' l=k l)->(if (wOf g how fs).made=true then (M92 F (wOf g how fs) c sp.made).bind k else (M92_1 F (wOf g how fs) c).bind k')=k l:=by
 rcases hh with h|h
 ·obtain⟨l,e,T⟩:=tgt_all (how:=how) (fs:=fs) F hF R h hx hc
  refine⟨l,T,fun T k k' hk=>?_⟩
  rw[made_eq (.inl h),if_neg (by rw[h];decide),e,Option.bind_some,hk]
 ·obtain⟨l,e,T⟩:=tgt_made (how:=how) (fs:=fs) F hF R (by omega) S.ml S.m hx hc
  refine⟨l,T,fun T k k' hk=>?_⟩
  rw[made_eq (.inr h),if_pos (by rw[h];decide),e,Option.bind_some]
structure RBk(N b:Nat)(P:Nat->Nat->Prop)(rows:List (List Int)):Prop where
 len:rows.length=N
 row:∀v r,rows[v]? = some r->r.length<=b/\∀x:Int,x∈r<->∃i:Nat,x=(i:Int)/\P v i
theorem RBk.weak{N b b':Nat}{P P':Nat->Nat->Prop}{rows:List (List Int)}(h:RBk N b P rows)(hb:b<=b')(hp:∀v,v<N->∀i,P v i<->P' v i):RBk N b' P' rows:=
 ⟨h.len,fun v r hr=>⟨Nat.le_trans (h.row v r hr).1 hb,fun x=>by
  have hv:v<N:=by rw[<-h.len];exact(List.getElem?_eq_some_iff.1 hr).1
  rw[(h.row v r hr).2]
  exact⟨fun⟨i,e,q⟩=>⟨i,e,(hp v hv i).1 q⟩,fun⟨i,e,q⟩=>⟨i,e,(hp v hv i).2 q⟩⟩⟩⟩
theorem M94_L3_ok{N m:Nat}(F:Nat)(k:List (List Int)->Option (List Int)):∀(l:List Int) (rows:List (List Int)) (b:Nat) (P:Nat->Nat->Prop),RBk N b P rows->(∀v,v∈l->∃i:Nat,i<N/\v=i)->b+l.length<=1000000000->
  ∃rows',z1p F (m:Int) k l rows=k rows'/\RBk N (b+l.length) (fun v i=>P v i\/((v:Int)∈l/\i=m)) rows'
 |[],rows,b,P,h,_,_=>⟨rows,rfl,h.weak (by simp) (by simp)⟩
 |x::l,rows,b,P,h,hl,hb=>by
  simp only[List.length_cons] at hb
  obtain⟨i,hi,rfl⟩:=hl x (by simp)
  have hi':i<rows.length:=by rw[h.len];exact hi
  have hr:=h.row i rows[i] (List.getElem?_eq_getElem hi')
  have h2:RBk N (b+1) (fun v j=>P v j\/(v=i/\j=m)) (rows.set i (rows[i]++[(m:Int)])):=by
   refine⟨by simp[h.len],fun v r hv=>?_⟩
   rw[List.getElem?_set] at hv
   by_cases e:i=v
   ·subst e
    rw[if_pos rfl,if_pos hi'] at hv
    simp only[Option.some.injEq] at hv
    subst hv
    refine⟨by simp;omega,fun x=>?_⟩
    rw[List.mem_append,hr.2,List.mem_singleton]
    constructor
    ·rintro(⟨j,e,q⟩|e)
     ·exact⟨j,e,.inl q⟩
     ·exact⟨m,e,.inr ⟨rfl,rfl⟩⟩
    ·rintro⟨j,e,q|⟨_,q⟩⟩
     ·exact .inl ⟨j,e,q⟩
     ·exact .inr (by rw[e,q])
   ·rw[if_neg e] at hv
    have:=h.row v r hv
    refine⟨by omega,fun x=>?_⟩
    rw[this.2]
    constructor
    ·rintro⟨j,e',q⟩;exact⟨j,e',.inl q⟩
    ·rintro⟨j,e',q|⟨q,_⟩⟩
     ·exact⟨j,e',q⟩
     ·exact absurd q.symm e
  obtain⟨rows',e,h3⟩:=M94_L3_ok F k l _ _ _ h2 (fun v hv=>hl v (List.mem_cons_of_mem _ hv)) (by omega)
  refine⟨rows',?_,h3.weak (by simp;omega) fun v _ j=>?_⟩
  ·rw[z1p,q1h hi',Option.bind_some,if_pos (by simp;omega),Int.toNat_natCast,e]
  ·simp only[List.mem_cons]
   constructor
   ·rintro((q|⟨q,q'⟩)|⟨q,q'⟩)
    ·exact .inl q
    ·exact .inr ⟨.inl (by rw[q]),q'⟩
    ·exact .inr ⟨.inr q,q'⟩
   ·rintro(q|⟨q|q,q'⟩)
    ·exact .inl (.inl q)
    ·exact .inl (.inr ⟨by omega,q'⟩)
    ·exact .inr ⟨q,q'⟩
theorem M94_L4_eq(F:Nat)(n:Int)(k:List (List Int)->Option (List Int)):∀(l:List Int) (rows:List (List Int)),M94_L4 F n k l rows=z1p F n k l rows
 |[],rows=>rfl
 |x::l,rows=>by
  rw[M94_L4,z1p]
  refine congrArg _ (funext fun y=>?_)
  split
  ·exact M94_L4_eq F n k l _
  ·rfl
theorem M94_L2_ok{m:Nat}(F:Nat)(hF:1000<=F)(R:q5g g)(hh:how=1\/how=2)(S:SpOk g how fs sp){x:q5e}(hx:x∈g.Funcs)(k:List (List Int)->Option (List Int)):∀(l:List q8c) (rows:List (List Int)) (b:Nat) (P:Nat->Nat->Prop),RBk g.Funcs.length b P rows->(∀c,c∈l->c∈x.Calls)->b+500*l.length<=1000000000->
  ∃rows',M94_L2 F (wOf g how fs) sp (m:Int) k l rows=k rows'/\RBk g.Funcs.length (b+500*l.length) (fun v i=>P v i\/(i=m/\∃c,c∈l/\onF fs c.Feature=true/\∃h:v<g.Funcs.length,gd g how fs c (g.Funcs[v]).Name)) rows'
 |[],rows,b,P,h,_,_=>⟨rows,rfl,h.weak (by simp) (by simp)⟩
 |c::l,rows,b,P,h,hl,hb=>by
  simp only[List.length_cons] at hb
  rw[M94_L2]
  simp only[q3e]
  have hon:(q8b (wOf g how fs).on c.Feature).getD false=onF fs c.Feature:=onB_eq g how fs c.Feature
  rw[hon]
  by_cases ho:onF fs c.Feature=true
  ·rw[if_pos ho]
   obtain⟨tl,T,e⟩:=tgt_if F hF R hh S hx (hl c (by simp))
   rw[e _ _ _ (fun l'=>M94_L4_eq F (m:Int) _ l' rows)]
   obtain⟨r1,e1,h1⟩:=M94_L3_ok (m:=m) F (fun l=>M94_L2 F (wOf g how fs) sp (m:Int) k ‹_› l) tl rows b P h T.nat (by have:=T.len;omega)
   rw[e1]
   obtain⟨r2,e2,h2⟩:=M94_L2_ok F hF R hh S hx k l r1 _ _ (h1.weak (b':=b+500) (by have:=T.len;omega) (fun _ _ _=>Iff.rfl)) (fun c hc=>hl c (List.mem_cons_of_mem _ hc)) (by omega)
   refine⟨r2,e2,h2.weak (by simp;omega) fun v hv i=>?_⟩
   simp only[List.mem_cons]
   constructor
   ·rintro((q|⟨q,q'⟩)|⟨q,c',q1,q2⟩)
    ·exact .inl q
    ·exact .inr ⟨q',c,.inl rfl,ho,hv,(T.mem v hv).1 q⟩
    ·exact .inr ⟨q,c',.inr q1,q2⟩
   ·rintro(q|⟨q,c',rfl|q1,q2,q3⟩)
    ·exact .inl (.inl q)
    ·exact .inl (.inr ⟨(T.mem v hv).2 q3.2,q⟩)
    ·exact .inr ⟨q,c',q1,q2,q3⟩
  ·rw[if_neg ho]
   obtain⟨r2,e2,h2⟩:=M94_L2_ok F hF R hh S hx k l rows b P h (fun c hc=>hl c (List.mem_cons_of_mem _ hc)) (by omega)
   refine⟨r2,e2,h2.weak (by simp;omega) fun v hv i=>?_⟩
   simp only[List.mem_cons]
   constructor
   ·rintro(q|⟨q,c',q1,q2⟩)
    ·exact .inl q
    ·exact .inr ⟨q,c',.inr q1,q2⟩
   ·rintro(q|⟨q,c',rfl|q1,q2,q3⟩)
    ·exact .inl q
    ·exact absurd q2 ho
    ·exact .inr ⟨q,c',q1,q2,q3⟩
def Ed(g:q3c)(how:Int)(fs:List Tx)(x y:Tx):Prop:=RN g how (onF fs) false x/\∃f,f∈g.Funcs/\f.Name=x/\∃c,c∈f.Calls/\onF fs c.Feature=true/\gd g how fs c y
theorem M94_L1_ok(F:Nat)(hF:1000<=F)(R:q5g g)(hh:how=1\/how=2)(S:SpOk g how fs sp)(k:List (List Int)->Option (List Int)):∀(l:List q5e) (n:Nat) (rows:List (List Int)) (b:Nat) (P:Nat->Nat->Prop),g.Funcs.drop n=l->RBk g.Funcs.length b P rows->b+100000*l.length<=1000000000->
  ∃rows',M94_L1 F (wOf g how fs) sp k l (n:Int) rows=k rows'/\RBk g.Funcs.length (b+100000*l.length) (fun v i=>P v i\/∃hv:v<g.Funcs.length,∃hi:i<g.Funcs.length,n<=i/\Ed g how fs (g.Funcs[i]).Name (g.Funcs[v]).Name) rows'
 |[],n,rows,b,P,hd,h,_=>⟨rows,rfl,h.weak (by simp) fun v hv i=>by
   have:g.Funcs.length<=n:=by simpa using hd
   constructor
   ·exact .inl
   ·rintro(q|⟨_,hi,hn,_⟩)
    ·exact q
    ·omega⟩
 |x::l,n,rows,b,P,hd,h,hb=>by
  simp only[List.length_cons] at hb
  have hn:n<g.Funcs.length:=by
   apply Classical.byContradiction
   intro q
   rw[List.drop_eq_nil_of_le (by omega)] at hd;simp at hd
  have hx:g.Funcs[n]=x/\g.Funcs.drop (n+1)=l:=by
   rw[List.drop_eq_getElem_cons hn] at hd
   exact⟨(List.cons.inj hd).1,(List.cons.inj hd).2⟩
  obtain⟨rfl,hd2⟩:=hx
  have hfl:n<sp.funcs.length:=by rw[S.fl];exact hn
  have hRi:=R.f _ (List.getElem_mem hn)
  have hedge:∀v (hv:v<g.Funcs.length),(Ed g how fs (g.Funcs[n]).Name (g.Funcs[v]).Name<->RN g how (onF fs) false (g.Funcs[n]).Name/\∃c,c∈(g.Funcs[n]).Calls/\onF fs c.Feature=true/\gd g how fs c (g.Funcs[v]).Name):=by
   intro v hv
   constructor
   ·rintro⟨h1,f,hf,he,c,hc⟩
    have e1:=q8o (f:=q5e.Name) R.fsrt hf
    have e2:=find_at R hn
    rw[he,e2] at e1
    obtain rfl:=Option.some.inj e1
    exact⟨h1,c,hc⟩
   ·rintro⟨h1,c,hc⟩
    exact⟨h1,_,List.getElem_mem hn,rfl,c,hc⟩
  rw[M94_L1]
  simp only[q3e]
  rw[q1h hfl,Option.bind_some]
  have htru:tru sp.funcs n<->sp.funcs[n]=true:=by unfold tru;rw[List.getElem?_eq_getElem hfl];simp
  rw[show((n:Int)+1)=((n+1:Nat):Int) by omega]
  cases hb2:sp.funcs[n] with
  |false=>
   rw[if_pos (by simp)]
   obtain⟨r2,e2,h2⟩:=M94_L1_ok F hF R hh S k l (n+1) rows b P hd2 h (by omega)
   refine⟨r2,e2,h2.weak (by simp;omega) fun v hv i=>?_⟩
   have hno:¬RN g how (onF fs) false (g.Funcs[n]).Name:=fun q=>by
    have:=htru.1 ((S.f n hn).2 q)
    rw[hb2] at this;simp at this
   constructor
   ·rintro(q|⟨q1,q2,q3,q4⟩)
    ·exact .inl q
    ·exact .inr ⟨q1,q2,by omega,q4⟩
   ·rintro(q|⟨q1,q2,q3,q4⟩)
    ·exact .inl q
    ·by_cases e:i=n
     ·subst e;exact absurd q4.1 hno
     ·exact .inr ⟨q1,q2,by omega,q4⟩
  |true=>
   rw[if_neg (by simp)]
   have hyes:RN g how (onF fs) false (g.Funcs[n]).Name:=(S.f n hn).1 (htru.2 hb2)
   obtain⟨r1,e1,h1⟩:=M94_L2_ok (m:=n) F hF R hh S (List.getElem_mem hn) (fun l13=>M94_L1 F (wOf g how fs) sp k l ((n+1:Nat):Int) l13) (g.Funcs[n]).Calls rows b P h (fun c hc=>hc) (by have:=hRi.len;omega)
   rw[e1]
   obtain⟨r2,e2,h2⟩:=M94_L1_ok F hF R hh S k l (n+1) r1 (b+100000) _ hd2 (h1.weak (by have:=hRi.len;omega) (fun _ _ _=>Iff.rfl)) (by omega)
   refine⟨r2,e2,h2.weak (by simp;omega) fun v hv i=>?_⟩
   constructor
   ·rintro((q|⟨rfl,c,q1,q2,_,q3⟩)|⟨q1,q2,q3,q4⟩)
    ·exact .inl q
    ·exact .inr ⟨hv,hn,Nat.le_refl _,(hedge v hv).2 ⟨hyes,c,q1,q2,q3⟩⟩
    ·exact .inr ⟨q1,q2,by omega,q4⟩
   ·rintro(q|⟨q1,q2,q3,q4⟩)
    ·exact .inl (.inl q)
    ·by_cases e:i=n
     ·subst e
      obtain⟨_,c,r1,r2,r3⟩:=(hedge v hv).1 q4
      exact .inl (.inr ⟨rfl,c,r1,r2,hv,r3⟩)
     ·exact .inr ⟨q1,q2,by omega,q4⟩
end
end Go.Proofs.YtpbkggamiipdmaaGreat
